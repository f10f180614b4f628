/- A part of the proof: contracts, printed by program. -/
import Derived.Test.YtmblnmgpmdapnaaGreatB
set_option linter.unusedVariables false
set_option linter.unusedSimpArgs false
set_option linter.unnecessarySimpa false
set_option linter.deprecated false
set_option linter.unusedSectionVars false
set_option linter.constructorNameAsVariable false
section
set_option maxRecDepth 100000
open Go Go.Proofs Ax
namespace W
abbrev zbz (r:Bool):PV:=PV.bool r
def qiy (n:Nat) (a:Int):Option (Bool):=
 some (bif(bif(bif(decide (a≥97))then(decide (a<=122))else false)then true else(bif(decide (a≥65))then(decide (a<=90))else false))then true else(a==95))
theorem qqm (n:Nat):∀ (a:Int) (r:Bool),qiy n a=some r->qac Tryz.prog 114 [PV.int .u8 a] (zbz r):=by
 intro a r h;unfold qiy at h;refine qac.of_vcN mixed (fun _ _=>Tryz.call114 _ _) Tryz.func114 (by kernel_rfl) (inl:=[1000000]) ?_;conv=>whnf
 iterate 10 refine⟨id,?_⟩
 obtain rfl:=sj h;conv=>whnf
 try exact fin
abbrev zeh (r:Bool):PV:=PV.bool r
def qk4 (n:Nat) (a:Int):Option (Bool):=
 some (bif(decide (a≥48))then(decide (a<=57))else false)
theorem qot (n:Nat):∀ (a:Int) (r:Bool),qk4 n a=some r->qac Tryz.prog 115 [PV.int .u8 a] (zeh r):=by
 intro a r h;unfold qk4 at h;refine qac.of_vcN mixed (fun _ _=>Tryz.call115 _ _) Tryz.func115 (by kernel_rfl) (inl:=[1000000]) ?_;conv=>whnf
 refine⟨id,id,?_⟩;obtain rfl:=sj h;conv=>whnf
 try exact fin
abbrev zel (r:List SS):PV:=PV.sl (qak r)
def qxh (n:Nat):Option (List SS):=
 some [([77,65,84,67,72]:SS),([87,72,69,82,69]:SS),([85,78,87,73,78,68]:SS),([65,83]:SS),([87,73,84,72]:SS),([67,82,69,65,84,69]:SS),([77,69,82,71,69]:SS),([83,69,84]:SS),([82,69,77,79,86,69]:SS),([68,69,76,69,84,69]:SS),([68,69,84,65,67,72]:SS),([82,69,84,85,82,78]:SS),([68,73,83,84,73,78,67,84]:SS),([79,82,68,69,82]:SS),([66,89]:SS),([65,83,67]:SS),([68,69,83,67]:SS),([83,75,73,80]:SS),([76,73,77,73,84]:SS),([65,78,68]:SS),([79,82]:SS),([88,79,82]:SS),([78,79,84]:SS),([73,78]:SS),([73,83]:SS),([78,85,76,76]:SS),([84,82,85,69]:SS),([70,65,76,83,69]:SS)]
theorem zba (n:Nat):∀ (r:List SS),qxh n=some r->qac Tryz.prog 148 [] (zel r):=by
 intro r h;unfold qxh at h;refine qac.of_vcN mixed (fun _ _=>Tryz.call148 _ _) Tryz.func148 (by kernel_rfl) (inl:=[1000000]) ?_;conv=>whnf
 refine⟨Codec.one qpr [([77,65,84,67,72]:SS),([87,72,69,82,69]:SS),([85,78,87,73,78,68]:SS),([65,83]:SS),([87,73,84,72]:SS),([67,82,69,65,84,69]:SS),([77,69,82,71,69]:SS),([83,69,84]:SS),([82,69,77,79,86,69]:SS),([68,69,76,69,84,69]:SS),([68,69,84,65,67,72]:SS),([82,69,84,85,82,78]:SS),([68,73,83,84,73,78,67,84]:SS),([79,82,68,69,82]:SS),([66,89]:SS),([65,83,67]:SS),([68,69,83,67]:SS),([83,75,73,80]:SS),([76,73,77,73,84]:SS),([65,78,68]:SS),([79,82]:SS),([88,79,82]:SS),([78,79,84]:SS),([73,78]:SS),([73,83]:SS),([78,85,76,76]:SS),([84,82,85,69]:SS),([70,65,76,83,69]:SS)],qak [([77,65,84,67,72]:SS),([87,72,69,82,69]:SS),([85,78,87,73,78,68]:SS),([65,83]:SS),([87,73,84,72]:SS),([67,82,69,65,84,69]:SS),([77,69,82,71,69]:SS),([83,69,84]:SS),([82,69,77,79,86,69]:SS),([68,69,76,69,84,69]:SS),([68,69,84,65,67,72]:SS),([82,69,84,85,82,78]:SS),([68,73,83,84,73,78,67,84]:SS),([79,82,68,69,82]:SS),([66,89]:SS),([65,83,67]:SS),([68,69,83,67]:SS),([83,75,73,80]:SS),([76,73,77,73,84]:SS),([65,78,68]:SS),([79,82]:SS),([88,79,82]:SS),([78,79,84]:SS),([73,78]:SS),([73,83]:SS),([78,85,76,76]:SS),([84,82,85,69]:SS),([70,65,76,83,69]:SS)],.inl rfl,?_⟩;obtain rfl:=sj h;conv=>whnf
 try exact fin
abbrev zej (r:SS):PV:=PV.str r
def qlt (n:Nat) (a:SS) (c:SS×Int->Option SS) (d:Int):Int->Option SS:=fun e=>
 bnd (u8I e) fun b=>
 chk (decide ((qau (a++[b])).length * 1<=140737488355328)) (
 c ((a++[b]),(IntKind.i64.wrap (d+1))))
def qlu (n:Nat) (e:SS):(SS×Int->Option SS)->SS×Int->Option SS:=fun d (c,a)=>
 bif(decide (a<((e.length:Nat):Int)))then(
 bnd (idx e a) fun b=>
 bif(bif(decide (((b.toNat:Nat):Int)≥97))then(decide (((b.toNat:Nat):Int)<=122))else false)then(
 qlt n c d a (IntKind.u8.wrap (((b.toNat:Nat):Int) - 32)))
 else(
 qlt n c d a ((b.toNat:Nat):Int)))
 else(
 some c)
def qt7 (n:Nat) (a:SS):Option SS:=
 qam (qlu n a) n (([]:List _),(0:Int))
theorem za9 (n:Nat):∀ (c r:SS),qt7 n c=some r->qac Tryz.prog 149 [PV.str c] (zej r):=by
 intro c r h;unfold qt7 at h;refine qac.of_vcN mixed (fun _ _=>Tryz.call149 _ _) Tryz.func149 (by kernel_rfl) (inl:=[1000000]) ?_;conv=>whnf
 refine qbi.fn [1000000] (S:=SS×Int) (fun(a,d)=>[(0,pS c),(3,.tsl 0 (qau a)),(4,pI d)]) (fun(a,d)=>[.tail 5 1 (qau a).length]) (B:=qlu n c) h (wk [0] [0]) ?_;intro l st h;obtain⟨a,d⟩:=st;unfold qlu at h;conv=>whnf
 apply ifc h<;>intro k h
 ·conv=>whnf
  refine bq h fun g j h=>?_;refine⟨_,qc8 j,?_⟩;conv=>whnf
  refine qhe.cut (S:=Int) (fun e=>[(0,pS c),(3,.tsl 0 (qau a)),(4,pI d),(5,.p (.int .u8 e))]) (fun e=>[.tail 5 1 (qau a).length]) (qlt n a l d) (r:=r) ?_ ?_
  ·intro e h
   unfold qlt at h;conv=>whnf
   refine bq h fun b i h=>?_;rw[show([[PV.int .u8 e]]:List (List PV))=qau [b]from by rw[qeu i]; rfl];refine⟨Codec.one qdm [b],_,.inl rfl,?_⟩;conv=>whnf
   rw[show qau a++qau [b]=qau (a++[b])from Codec.append qdm a [b]];conv=>whnf
   obtain⟨f,h⟩:=qai h;refine⟨⟨Codec.wide qdm (a++[b]),of_decide_eq_true f,qb5 f (by decide)⟩,?_⟩;conv=>whnf
   refine⟨⟨rfl,rfl,rfl⟩,?_⟩;conv=>whnf
   exact⟨((a++[b]),(IntKind.i64.wrap (d+1))),h,wk [1] []⟩
  ·conv=>whnf
   refine⟨id,?_⟩;conv=>whnf
   refine⟨id,?_⟩;conv=>whnf
   apply ifc h<;>intro k h
   ·conv=>whnf
    exact⟨(IntKind.u8.wrap (((g.toNat:Nat):Int) - 32)),h,wk [0] []⟩
   ·conv=>whnf
    exact⟨((g.toNat:Nat):Int),h,wk [0] []⟩
 ·conv=>whnf
  refine⟨_,rfl,?_⟩;obtain rfl:=sj h;conv=>whnf
  try exact fin
abbrev zgj (r:SS×Bool):PV:=PV.tup [PV.str r.1,PV.bool r.2]
def qnm (n:Nat) (b:List SS) (c:SS):(Int->Option (SS×Bool))->Int->Option (SS×Bool):=fun d a=>
 bif(decide (a<((qak b).length:Int)))then(
 bnd (idx b a) fun e=>
 bif(e==c)then(
 some (c,true))
 else(
 d (IntKind.i64.wrap (a+1))))
 else(
 some (([]:SS),false))
def qtt (n:Nat) (a:SS):Option (SS×Bool):=
 bnd (qxh n) fun b=>
 bnd (qt7 n a) fun c=>
 qam (qnm n b c) n (0:Int)
theorem q3e (n:Nat):∀ (b:SS) (r:SS×Bool),qtt n b=some r->qac Tryz.prog 100 [PV.str b] (zgj r):=by
 intro b r h;unfold qtt at h;refine qac.of_vcN mixed (fun _ _=>Tryz.call100 _ _) Tryz.func100 (by kernel_rfl) (inl:=[1000000]) ?_;conv=>whnf
 refine bq h fun c g h=>?_;refine⟨_,(zba n _ g),?_⟩;conv=>whnf
 refine bq h fun d f h=>?_;refine⟨_,(za9 n _ _ f),?_⟩;conv=>whnf
 refine qbi.fn [1000000] (S:=Int) (fun a=>[(4,pT c),(5,pS d),(6,pI a)]) (fun a=>[]) (B:=qnm n c d) h (wk [] []) ?_;intro _ a h;unfold qnm at h;conv=>whnf
 apply ifc h<;>intro i h
 ·conv=>whnf
  refine bq h fun _ e h=>?_;refine⟨_,Codec.at_ qpr e,?_⟩;conv=>whnf
  apply ifc h<;>intro i h
  ·obtain rfl:=sj h
   conv=>whnf
   try exact fin
  ·conv=>whnf
   exact⟨(IntKind.i64.wrap (a+1)),h,wk [] []⟩
 ·obtain rfl:=sj h
  conv=>whnf
  try exact fin
abbrev zbx (r:Bool):PV:=PV.bool r
def qt2 (n:Nat) (a:SS):(Int->Option (Bool))->Int->Option (Bool):=fun d b=>
 bif(decide (b<((a.length:Nat):Int)))then(
 bnd (idx a b) fun c=>
 bnd (qaw (!(decide (((c.toNat:Nat):Int)<48))) (idx a b)) fun e=>
 bif(bif(decide (((c.toNat:Nat):Int)<48))then true else(decide (((e.toNat:Nat):Int)>57)))then(
 some false)
 else(
 d (IntKind.i64.wrap (b+1))))
 else(
 some (decide (((a.length:Nat):Int)>0)))
def qy8 (n:Nat) (a:SS):Option (Bool):=
 qam (qt2 n a) n (0:Int)
theorem q8l (n:Nat):∀ (a:SS) (r:Bool),qy8 n a=some r->qac Tryz.prog 155 [PV.str a] (zbx r):=by
 intro a r h;unfold qy8 at h;refine qac.of_vcN mixed (fun _ _=>Tryz.call155 _ _) Tryz.func155 (by kernel_rfl) (inl:=[1000000]) ?_;conv=>whnf
 refine qbi.fn [1000000] (S:=Int) (fun b=>[(0,pS a),(3,pI b)]) (fun b=>[]) (B:=qt2 n a) h (wk [] []) ?_;intro _ b h;unfold qt2 at h;conv=>whnf
 apply ifc h<;>intro e h
 ·conv=>whnf
  refine bq h fun _ d h=>?_;refine⟨_,qc8 d,?_⟩;conv=>whnf
  refine⟨id,id,?_⟩;conv=>whnf
  refine bq h fun _ c h=>?_;refine⟨_,fun f=>qc8 (qad c f),?_⟩;conv=>whnf
  refine⟨id,id,?_⟩;conv=>whnf
  apply ifc h<;>intro e h
  ·obtain rfl:=sj h
   conv=>whnf
   try exact fin
  ·conv=>whnf
   exact⟨(IntKind.i64.wrap (b+1)),h,wk [] []⟩
 ·obtain rfl:=sj h
  conv=>whnf
  try exact fin
abbrev zi2 (r:Int×Int):PV:=PV.tup [PV.int .i64 r.1,PV.int .i64 r.2]
def q8m (n:Nat) (b a:Int):Option (Int×Int):=
 bif(bif(b==0)then true else(a==0))then(
 some ((0:Int),(0:Int)))
 else(
 bif(bif(bif(b==(-1:Int))then(a==(-9223372036854775808:Int))else false)then true else(bif(a==(-1:Int))then(b==(-9223372036854775808:Int))else false))then(
 some ((0:Int),(4:Int)))
 else(
 chk (decide (a≠0)) (
 bif((IntKind.i64.wrap (Int.tdiv (IntKind.i64.wrap (b * a)) a)) != b)then(
 some ((0:Int),(4:Int)))
 else(
 some ((IntKind.i64.wrap (b * a)),(0:Int))))))
theorem zf9 (n:Nat):∀ (b a:Int) (r:Int×Int),q8m n b a=some r->qac Tryz.prog 156 [PV.int .i64 b,PV.int .i64 a] (zi2 r):=by
 intro b a r h;unfold q8m at h;refine qac.of_vcN mixed (fun _ _=>Tryz.call156 _ _) Tryz.func156 (by kernel_rfl) (inl:=[1000000]) ?_;conv=>whnf
 refine⟨id,id,?_⟩;conv=>whnf
 apply ifc h<;>intro c h
 ·obtain rfl:=sj h
  conv=>whnf
  try exact fin
 ·conv=>whnf
  iterate 8 refine⟨id,?_⟩
  conv=>whnf
  apply ifc h<;>intro c h
  ·obtain rfl:=sj h
   conv=>whnf
   try exact fin
  ·conv=>whnf
   obtain⟨d,h⟩:=qai h;refine⟨(of_decide_eq_true d:a≠0),?_⟩;conv=>whnf
   apply ifc h<;>intro c h
   ·obtain rfl:=sj h
    conv=>whnf
    try exact fin
   ·obtain rfl:=sj h
    conv=>whnf
    try exact fin
abbrev zi1 (r:Int×Int):PV:=PV.tup [PV.int .i64 r.1,PV.int .i64 r.2]
def q8k (n:Nat) (b a:Int):Option (Int×Int):=
 bif(bif(bif(decide (a>0))then(decide (b>(IntKind.i64.wrap ((9223372036854775807:Int) - a))))else false)then true else(bif(decide (a<0))then(decide (b<(IntKind.i64.wrap ((-9223372036854775808:Int) - a))))else false))then(
 some ((0:Int),(4:Int)))
 else(
 some ((IntKind.i64.wrap (b+a)),(0:Int)))
theorem zf8 (n:Nat):∀ (a b:Int) (r:Int×Int),q8k n a b=some r->qac Tryz.prog 157 [PV.int .i64 a,PV.int .i64 b] (zi1 r):=by
 intro a b r h;unfold q8k at h;refine qac.of_vcN mixed (fun _ _=>Tryz.call157 _ _) Tryz.func157 (by kernel_rfl) (inl:=[1000000]) ?_;conv=>whnf
 iterate 12 refine⟨id,?_⟩
 conv=>whnf
 apply ifc h<;>intro _ h
 ·obtain rfl:=sj h
  conv=>whnf
  try exact fin
 ·obtain rfl:=sj h
  conv=>whnf
  try exact fin
abbrev zeg (r:Int×Int):PV:=PV.tup [PV.int .i64 r.1,PV.int .i64 r.2]
def qrz (n:Nat) (f:Int) (b:Int×Int->Option (Int×Int)) (e:Int):Int->Option (Int×Int):=fun c=>
 bnd (q8k n f c) fun⟨d,a⟩=>
 bif(a != 0)then(
 some ((0:Int),a))
 else(
 b (d,(IntKind.i64.wrap (e+1))))
def qvt (n:Nat) (b i:SS):(Int×Int->Option (Int×Int))->Int×Int->Option (Int×Int):=fun c (d,a)=>
 bif(decide (a<((b.length:Nat):Int)))then(
 bnd (q8m n d (10:Int)) fun⟨e,f⟩=>
 bif(f != 0)then(
 some ((0:Int),f))
 else(
 bnd (idx b a) fun g=>
 bif(decide (((b.length:Nat):Int)<((i.length:Nat):Int)))then(
 qrz n e c a (IntKind.i64.wrap ((0:Int) - (IntKind.i64.wrap (IntKind.u8.wrap (((g.toNat:Nat):Int) - 48))))))
 else(
 qrz n e c a (IntKind.i64.wrap (IntKind.u8.wrap (((g.toNat:Nat):Int) - 48))))))
 else(
 some (d,(0:Int)))
def qry (n:Nat) (b:SS):SS->Option (Int×Int):=fun a=>
 bnd (qy8 n a) fun c=>
 bnd (qaw (!(!c)) (idx a (0:Int))) fun d=>
 bif(bif(!c)then true else(bif(((d.toNat:Nat):Int)==48)then(!(b==([48]:SS)))else false))then(
 some ((0:Int),(1:Int)))
 else(
 qam (qvt n a b) n ((0:Int),(0:Int)))
def q18 (n:Nat) (a:SS):Option (Int×Int):=
 bnd (qaw (decide (((a.length:Nat):Int)>0)) (idx a (0:Int))) fun b=>
 bif(bif(decide (((a.length:Nat):Int)>0))then(((b.toNat:Nat):Int)==45)else false)then(
 chk (decide (1<=a.length)) (
 qry n a (a.drop 1)))
 else(
 qry n a a)
theorem za2 (n:Nat):∀ (a:SS) (r:Int×Int),q18 n a=some r->qac Tryz.prog 116 [PV.str a] (zeg r):=by
 intro a r h;unfold q18 at h;refine qac.of_vcN mixed (fun _ _=>Tryz.call116 _ _) Tryz.func116 (by kernel_rfl) (inl:=[1000000]) ?_;conv=>whnf
 refine qhe.cut (S:=SS) (fun b=>[(0,pS a),(4,pS b)]) (fun b=>[]) (qry n a) (r:=r) ?_ ?_
 ·intro b h
  unfold qry at h;conv=>whnf
  refine bq h fun _ p h=>?_;refine⟨_,(q8l n _ _ p),?_⟩;conv=>whnf
  refine⟨id,?_⟩;conv=>whnf
  refine bq h fun _ o h=>?_;refine⟨_,fun e=>qc8 (qad o e),?_⟩;conv=>whnf
  iterate 6 refine⟨id,?_⟩
  conv=>whnf
  apply ifc h<;>intro d h
  ·obtain rfl:=sj h
   conv=>whnf
   try exact fin
  ·conv=>whnf
   refine qbi.fn [1000000] (S:=Int×Int) (fun(g,c)=>[(0,pS a),(4,pS b),(5,pI g),(6,pI c)]) (fun(g,c)=>[]) (B:=qvt n b a) h (wk [] []) ?_;intro t st h;obtain⟨g,c⟩:=st;unfold qvt at h;conv=>whnf
   apply ifc h<;>intro d h
   ·conv=>whnf
    refine bq h fun⟨i,_⟩ m h=>?_;refine⟨_,(zf9 n _ _ _ m),?_⟩;conv=>whnf
    apply ifc h<;>intro d h
    ·obtain rfl:=sj h
     conv=>whnf
     try exact fin
    ·conv=>whnf
     refine bq h fun j l h=>?_;refine⟨_,qc8 l,?_⟩;conv=>whnf
     refine qhe.cut (S:=Int) (fun f=>[(0,pS a),(4,pS b),(6,pI c),(7,pI i),(9,pI f)]) (fun f=>[]) (qrz n i t c) (r:=r) ?_ ?_
     ·intro f h
      unfold qrz at h;conv=>whnf
      refine bq h fun⟨u,_⟩ k h=>?_;refine⟨_,(zf8 n _ _ _ k),?_⟩;conv=>whnf
      apply ifc h<;>intro d h
      ·obtain rfl:=sj h
       conv=>whnf
       try exact fin
      ·conv=>whnf
       exact⟨(u,(IntKind.i64.wrap (c+1))),h,wk [] []⟩
     ·conv=>whnf
      apply ifc h<;>intro d h
      ·conv=>whnf
       exact⟨(IntKind.i64.wrap ((0:Int) - (IntKind.i64.wrap (IntKind.u8.wrap (((j.toNat:Nat):Int) - 48))))),h,wk [] []⟩
      ·conv=>whnf
       exact⟨(IntKind.i64.wrap (IntKind.u8.wrap (((j.toNat:Nat):Int) - 48))),h,wk [] []⟩
   ·obtain rfl:=sj h
    conv=>whnf
    try exact fin
 ·conv=>whnf
  refine⟨id,?_⟩;conv=>whnf
  refine bq h fun _ s h=>?_;refine⟨_,fun e=>qc8 (qad s e),?_⟩;conv=>whnf
  refine⟨id,id,?_⟩;conv=>whnf
  apply ifc h<;>intro d h
  ·conv=>whnf
   refine⟨1,rfl,?_⟩;conv=>whnf
   obtain⟨q,h⟩:=qai h;refine⟨⟨(of_decide_eq_true q:(1<=a.length)),Nat.le_refl _⟩,?_⟩;rw[show List.drop 1 (List.take a.length a)=(a.drop 1)from by rw[List.take_length]];conv=>whnf
   exact⟨(a.drop 1),h,wk [] []⟩
  ·conv=>whnf
   exact⟨a,h,wk [] []⟩
abbrev zgh (r:Bool):PV:=PV.bool r
def qri (n:Nat) (a:SS) (b:Int):Option (Bool):=
 bnd (qaw (decide (b<((a.length:Nat):Int))) (idx a b)) fun c=>
 bnd (qaw (bif(decide (b<((a.length:Nat):Int)))then(decide (((c.toNat:Nat):Int)≥128))else false) (idx a b)) fun d=>
 some (bif(bif(decide (b<((a.length:Nat):Int)))then(decide (((c.toNat:Nat):Int)≥128))else false)then(decide (((d.toNat:Nat):Int)<192))else false)
theorem qxd (n:Nat):∀ (b:SS) (c:Int) (r:Bool),qri n b c=some r->qac Tryz.prog 150 [PV.str b,PV.int .i64 c] (zgh r):=by
 intro b c r h;unfold qri at h;refine qac.of_vcN mixed (fun _ _=>Tryz.call150 _ _) Tryz.func150 (by kernel_rfl) (inl:=[1000000]) ?_;conv=>whnf
 refine⟨id,id,?_⟩;conv=>whnf
 refine bq h fun _ e h=>?_;refine⟨_,fun a=>qc8 (qad e a),?_⟩;conv=>whnf
 refine⟨id,id,id,id,?_⟩;conv=>whnf
 refine bq h fun _ d h=>?_;refine⟨_,fun a=>qc8 (qad d a),?_⟩;conv=>whnf
 refine⟨id,id,?_⟩;obtain rfl:=sj h;conv=>whnf
 try exact fin
abbrev zgg (r:Int):PV:=PV.int .i64 r
def qts (n:Nat) (b:SS) (c:Int):Option (Int):=
 bif(decide (c≥((b.length:Nat):Int)))then(
 some (0:Int))
 else(
 bnd (idx b c) fun a=>
 bif(decide (((a.toNat:Nat):Int)<128))then(
 some (1:Int))
 else(
 bnd (qaw (!(bif(decide (((a.toNat:Nat):Int)<194))then true else(decide (((a.toNat:Nat):Int)>244)))) (qri n b (IntKind.i64.wrap (c+1)))) fun e=>
 bif(bif(bif(decide (((a.toNat:Nat):Int)<194))then true else(decide (((a.toNat:Nat):Int)>244)))then true else(!e))then(
 some (0:Int))
 else(
 bif(decide (((a.toNat:Nat):Int)<224))then(
 some (2:Int))
 else(
 bnd (idx b (IntKind.i64.wrap (c+1))) fun d=>
 bnd (qri n b (IntKind.i64.wrap (c+2))) fun f=>
 bif(bif(bif(!f)then true else(bif(((a.toNat:Nat):Int)==224)then(decide (((d.toNat:Nat):Int)<160))else false))then true else(bif(((a.toNat:Nat):Int)==237)then(decide (((d.toNat:Nat):Int)≥160))else false))then(
 some (0:Int))
 else(
 bif(decide (((a.toNat:Nat):Int)<240))then(
 some (3:Int))
 else(
 bnd (qri n b (IntKind.i64.wrap (c+3))) fun g=>
 bif(bif(bif(!g)then true else(bif(((a.toNat:Nat):Int)==240)then(decide (((d.toNat:Nat):Int)<144))else false))then true else(bif(((a.toNat:Nat):Int)==244)then(decide (((d.toNat:Nat):Int)≥144))else false))then(
 some (0:Int))
 else(
 some (4:Int))))))))
set_option maxHeartbeats 4000000 in
theorem q3d (n:Nat):∀ (b:SS) (c r:Int),qts n b c=some r->qac Tryz.prog 102 [PV.str b,PV.int .i64 c] (zgg r):=by
 intro b c r h;unfold qts at h;refine qac.of_vcN mixed (fun _ _=>Tryz.call102 _ _) Tryz.func102 (by kernel_rfl) (inl:=[1000000]) ?_;conv=>whnf
 apply ifc h<;>intro a h
 ·obtain rfl:=sj h
  conv=>whnf
  try exact fin
 ·conv=>whnf
  refine bq h fun _ i h=>?_;refine⟨_,qc8 i,?_⟩;conv=>whnf
  apply ifc h<;>intro a h
  ·obtain rfl:=sj h
   conv=>whnf
   try exact fin
  ·conv=>whnf
   refine⟨id,id,id,id,id,?_⟩;conv=>whnf
   refine bq h fun _ g h=>?_;refine⟨_,fun j=>(qxd n _ _ _ (qad g j)),?_⟩;conv=>whnf
   refine⟨id,id,?_⟩;conv=>whnf
   apply ifc h<;>intro a h
   ·obtain rfl:=sj h
    conv=>whnf
    try exact fin
   ·conv=>whnf
    apply ifc h<;>intro a h
    ·obtain rfl:=sj h
     conv=>whnf
     try exact fin
    ·conv=>whnf
     refine bq h fun _ f h=>?_;refine⟨_,qc8 f,?_⟩;conv=>whnf
     refine bq h fun _ e h=>?_;refine⟨_,(qxd n _ _ _ e),?_⟩;conv=>whnf
     iterate 12 refine⟨id,?_⟩
     conv=>whnf
     apply ifc h<;>intro a h
     ·obtain rfl:=sj h
      conv=>whnf
      try exact fin
     ·conv=>whnf
      apply ifc h<;>intro a h
      ·obtain rfl:=sj h
       conv=>whnf
       try exact fin
      ·conv=>whnf
       refine bq h fun _ d h=>?_;refine⟨_,(qxd n _ _ _ d),?_⟩;conv=>whnf
       iterate 12 refine⟨id,?_⟩
       conv=>whnf
       apply ifc h<;>intro a h
       ·obtain rfl:=sj h
        conv=>whnf
        try exact fin
       ·obtain rfl:=sj h
        conv=>whnf
        try exact fin
abbrev zi4 (r:Int):PV:=PV.int .i64 r
def qwh (n:Nat) (a:Int):Option (Int):=
 bnd (qk4 n a) fun b=>
 bif b then(
 some (IntKind.i64.wrap (IntKind.u8.wrap (a - 48))))
 else(
 bif(bif(decide (a≥97))then(decide (a<=102))else false)then(
 some (IntKind.i64.wrap ((IntKind.i64.wrap (IntKind.u8.wrap (a - 97)))+10)))
 else(
 bif(bif(decide (a≥65))then(decide (a<=70))else false)then(
 some (IntKind.i64.wrap ((IntKind.i64.wrap (IntKind.u8.wrap (a - 65)))+10)))
 else(
 some (-1:Int))))
theorem qu7 (n:Nat):∀ (a r:Int),qwh n a=some r->qac Tryz.prog 158 [PV.int .u8 a] (zi4 r):=by
 intro a r h;unfold qwh at h;refine qac.of_vcN mixed (fun _ _=>Tryz.call158 _ _) Tryz.func158 (by kernel_rfl) (inl:=[1000000]) ?_;conv=>whnf
 refine bq h fun _ c h=>?_;refine⟨_,(qot n _ _ c),?_⟩;conv=>whnf
 apply ifc h<;>intro b h
 ·obtain rfl:=sj h
  conv=>whnf
  try exact fin
 ·conv=>whnf
  refine⟨id,id,?_⟩;conv=>whnf
  apply ifc h<;>intro b h
  ·obtain rfl:=sj h
   conv=>whnf
   try exact fin
  ·conv=>whnf
   refine⟨id,id,?_⟩;conv=>whnf
   apply ifc h<;>intro b h
   ·obtain rfl:=sj h
    conv=>whnf
    try exact fin
   ·obtain rfl:=sj h
    conv=>whnf
    try exact fin
abbrev zb0 (r:SS×Int×Bool):PV:=PV.tup [PV.str r.1,PV.int .i64 r.2.1,PV.bool r.2.2]
def qqn (n:Nat) (b:SS) (d:UInt8) (e:SS×Int->Option (SS×Int×Bool)) (a:Int) (c:SS):Bool->Option (SS×Int×Bool):=fun i=>
 bif i then(
 chk (decide ((qau (b++[d])).length * 1<=140737488355328)) (
 e ((b++[d]),(IntKind.i64.wrap (a+2)))))
 else(
 bif(((d.toNat:Nat):Int)==110)then(
 chk (decide ((qau (b++[(10:UInt8)])).length * 1<=140737488355328)) (
 e ((b++[(10:UInt8)]),(IntKind.i64.wrap (a+2)))))
 else(
 bif(((d.toNat:Nat):Int)==116)then(
 chk (decide ((qau (b++[(9:UInt8)])).length * 1<=140737488355328)) (
 e ((b++[(9:UInt8)]),(IntKind.i64.wrap (a+2)))))
 else(
 bif(((d.toNat:Nat):Int)==114)then(
 chk (decide ((qau (b++[(13:UInt8)])).length * 1<=140737488355328)) (
 e ((b++[(13:UInt8)]),(IntKind.i64.wrap (a+2)))))
 else(
 bif(((d.toNat:Nat):Int)==120)then(
 bnd (qaw (!(decide ((IntKind.i64.wrap ((IntKind.i64.wrap (a+2))+1))≥((c.length:Nat):Int)))) (idx c (IntKind.i64.wrap (a+2)))) fun j=>
 bnd (qaw (!(decide ((IntKind.i64.wrap ((IntKind.i64.wrap (a+2))+1))≥((c.length:Nat):Int)))) (qwh n ((j.toNat:Nat):Int))) fun f=>
 bnd (qaw (!(bif(decide ((IntKind.i64.wrap ((IntKind.i64.wrap (a+2))+1))≥((c.length:Nat):Int)))then true else(decide (f<0)))) (idx c (IntKind.i64.wrap ((IntKind.i64.wrap (a+2))+1)))) fun k=>
 bnd (qaw (!(bif(decide ((IntKind.i64.wrap ((IntKind.i64.wrap (a+2))+1))≥((c.length:Nat):Int)))then true else(decide (f<0)))) (qwh n ((k.toNat:Nat):Int))) fun l=>
 bif(bif(bif(decide ((IntKind.i64.wrap ((IntKind.i64.wrap (a+2))+1))≥((c.length:Nat):Int)))then true else(decide (f<0)))then true else(decide (l<0)))then(
 some (([]:SS),(0:Int),false))
 else(
 bnd (idx c (IntKind.i64.wrap (a+2))) fun m=>
 bnd (qwh n ((m.toNat:Nat):Int)) fun o=>
 bnd (idx c (IntKind.i64.wrap ((IntKind.i64.wrap (a+2))+1))) fun p=>
 bnd (qwh n ((p.toNat:Nat):Int)) fun q=>
 bnd (u8I (IntKind.u8.wrap (IntKind.i64.wrap ((IntKind.i64.wrap (o * (16:Int)))+q)))) fun g=>
 chk (decide ((qau (b++[g])).length * 1<=140737488355328)) (
 e ((b++[g]),(IntKind.i64.wrap ((IntKind.i64.wrap (a+2))+2))))))
 else(
 some (([]:SS),(0:Int),false))))))
def qt6 (n:Nat) (b:SS):(SS×Int->Option (SS×Int×Bool))->SS×Int->Option (SS×Int×Bool):=fun g (d,a)=>
 bif(decide (a<((b.length:Nat):Int)))then(
 bnd (idx b a) fun e=>
 bnd (qts n b a) fun i=>
 bif(((e.toNat:Nat):Int)==39)then(
 some (d,(IntKind.i64.wrap (a+1)),true))
 else(
 bif(bif(bif(i==0)then true else(decide (((e.toNat:Nat):Int)<32)))then true else(((e.toNat:Nat):Int)==127))then(
 some (([]:SS),(0:Int),false))
 else(
 bif(((e.toNat:Nat):Int) != 92)then(
 bnd (qwb (IntKind.i64.wrap (a+i))) fun f=>
 bnd (qwb a) fun j=>
 chk (decide (j<=f/\f<=b.length)) (
 chk (decide ((qau (d++((b.take f).drop j))).length * 1<=140737488355328)) (
 g ((d++((b.take f).drop j)),(IntKind.i64.wrap (a+i))))))
 else(
 bif(decide ((IntKind.i64.wrap (a+1))≥((b.length:Nat):Int)))then(
 some (([]:SS),(0:Int),false))
 else(
 bnd (idx b (IntKind.i64.wrap (a+1))) fun c=>
 bif(((c.toNat:Nat):Int)==92)then(
 qqn n d c g a b (((c.toNat:Nat):Int)==92))
 else(
 qqn n d c g a b (((c.toNat:Nat):Int)==39)))))))
 else(
 some (([]:SS),(0:Int),false))
def qy9 (n:Nat) (a:SS) (b:Int):Option (SS×Int×Bool):=
 bnd (qaw (!(decide (b≥((a.length:Nat):Int)))) (idx a b)) fun c=>
 bif(bif(decide (b≥((a.length:Nat):Int)))then true else(((c.toNat:Nat):Int) != 39))then(
 some (([]:SS),(0:Int),false))
 else(
 qam (qt6 n a) n (([]:List _),(IntKind.i64.wrap (b+1))))
set_option maxHeartbeats 4000000 in
theorem q8p (n:Nat):∀ (b:SS) (l:Int) (r:SS×Int×Bool),qy9 n b l=some r->qac Tryz.prog 117 [PV.str b,PV.int .i64 l] (zb0 r):=by
 intro b l r h;unfold qy9 at h;refine qac.of_vcN mixed (fun _ _=>Tryz.call117 _ _) Tryz.func117 (by kernel_rfl) (inl:=[40000033,1000000]) ?_;conv=>whnf
 refine⟨id,id,?_⟩;conv=>whnf
 refine bq h fun _ I h=>?_;refine⟨_,fun f=>qc8 (qad I f),?_⟩;conv=>whnf
 refine⟨id,id,?_⟩;conv=>whnf
 apply ifc h<;>intro c h
 ·obtain rfl:=sj h
  conv=>whnf
  try exact fin
 ·conv=>whnf
  refine qbi.fn [40000033,1000000] (S:=SS×Int) (fun(a,e)=>[(0,pS b),(7,.tsl 0 (qau a)),(8,pI e)]) (fun(a,e)=>[.tail 5 1 (qau a).length]) (B:=qt6 n b) h (wk [0] [0]) ?_;intro M st h;obtain⟨a,e⟩:=st;unfold qt6 at h;conv=>whnf
  apply ifc h<;>intro c h
  ·conv=>whnf
   refine bq h fun _ H h=>?_;refine⟨_,qc8 H,?_⟩;conv=>whnf
   refine bq h fun P G h=>?_;refine⟨_,(q3d n _ _ _ G),?_⟩;conv=>whnf
   apply ifc h<;>intro c h
   ·conv=>whnf
    refine⟨_,rfl,?_⟩;obtain rfl:=sj h;conv=>whnf
    try exact fin
   ·conv=>whnf
    refine⟨id,id,id,id,?_⟩;conv=>whnf
    apply ifc h<;>intro c h
    ·obtain rfl:=sj h
     conv=>whnf
     try exact fin
    ·conv=>whnf
     apply ifc h<;>intro c h
     ·conv=>whnf
      refine bq h fun g K h=>?_;refine⟨_,qct K,?_⟩;conv=>whnf
      refine bq h fun j J h=>?_;refine⟨_,qct J,?_⟩;conv=>whnf
      obtain⟨q,h⟩:=qai h;refine⟨⟨(of_decide_eq_true q:(j<=g/\g<=b.length)).1,(of_decide_eq_true q:(j<=g/\g<=b.length)).2⟩,?_⟩;conv=>whnf
      rw[show qau a++qau ((b.take g).drop j)=qau (a++((b.take g).drop j))from Codec.append qdm a ((b.take g).drop j)];conv=>whnf
      obtain⟨m,h⟩:=qai h;refine⟨⟨Codec.wide qdm a,of_decide_eq_true m,qb5 m (by decide)⟩,?_⟩;conv=>whnf
      refine⟨⟨rfl,rfl,rfl⟩,?_⟩;conv=>whnf
      exact⟨((a++((b.take g).drop j)),(IntKind.i64.wrap (e+P))),h,wk [1] []⟩
     ·conv=>whnf
      apply ifc h<;>intro c h
      ·obtain rfl:=sj h
       conv=>whnf
       try exact fin
      ·conv=>whnf
       refine bq h fun d F h=>?_;refine⟨_,qc8 F,?_⟩;conv=>whnf
       refine qhe.cut (S:=Bool) (fun k=>[(0,pS b),(7,.tsl 0 (qau a)),(8,.p (.int .i64 (IntKind.i64.wrap (e+2)))),(11,.p (.int .u8 ((d.toNat:Nat):Int))),(74,.p (.int .u8 ((d.toNat:Nat):Int))),(75,pB k)]) (fun k=>[.tail 5 1 (qau a).length]) (qqn n a d M e b) (r:=r) ?_ ?_
       ·intro k h
        unfold qqn at h;conv=>whnf
        apply ifc h<;>intro c h
        ·conv=>whnf
         refine⟨Codec.one qdm [d],qau [d],.inl rfl,?_⟩;conv=>whnf
         rw[show qau a++qau [d]=qau (a++[d])from Codec.append qdm a [d]];conv=>whnf
         obtain⟨s,h⟩:=qai h;refine⟨⟨Codec.wide qdm (a++[d]),of_decide_eq_true s,qb5 s (by decide)⟩,?_⟩;conv=>whnf
         refine⟨⟨rfl,rfl,rfl⟩,?_⟩;conv=>whnf
         exact⟨((a++[d]),(IntKind.i64.wrap (e+2))),h,wk [1] []⟩
        ·conv=>whnf
         apply ifc h<;>intro c h
         ·conv=>whnf
          refine⟨Codec.one qdm [(10:UInt8)],qau [(10:UInt8)],.inl rfl,?_⟩;conv=>whnf
          rw[show qau a++qau [(10:UInt8)]=qau (a++[(10:UInt8)])from Codec.append qdm a [(10:UInt8)]];conv=>whnf
          obtain⟨t,h⟩:=qai h;refine⟨⟨Codec.wide qdm (a++[(10:UInt8)]),of_decide_eq_true t,qb5 t (by decide)⟩,?_⟩;conv=>whnf
          refine⟨⟨rfl,rfl,rfl⟩,?_⟩;conv=>whnf
          exact⟨((a++[(10:UInt8)]),(IntKind.i64.wrap (e+2))),h,wk [1] []⟩
         ·conv=>whnf
          apply ifc h<;>intro c h
          ·conv=>whnf
           refine⟨Codec.one qdm [(9:UInt8)],qau [(9:UInt8)],.inl rfl,?_⟩;conv=>whnf
           rw[show qau a++qau [(9:UInt8)]=qau (a++[(9:UInt8)])from Codec.append qdm a [(9:UInt8)]];conv=>whnf
           obtain⟨u,h⟩:=qai h;refine⟨⟨Codec.wide qdm (a++[(9:UInt8)]),of_decide_eq_true u,qb5 u (by decide)⟩,?_⟩;conv=>whnf
           refine⟨⟨rfl,rfl,rfl⟩,?_⟩;conv=>whnf
           exact⟨((a++[(9:UInt8)]),(IntKind.i64.wrap (e+2))),h,wk [1] []⟩
          ·conv=>whnf
           apply ifc h<;>intro c h
           ·conv=>whnf
            refine⟨Codec.one qdm [(13:UInt8)],qau [(13:UInt8)],.inl rfl,?_⟩;conv=>whnf
            rw[show qau a++qau [(13:UInt8)]=qau (a++[(13:UInt8)])from Codec.append qdm a [(13:UInt8)]];conv=>whnf
            obtain⟨v,h⟩:=qai h;refine⟨⟨Codec.wide qdm (a++[(13:UInt8)]),of_decide_eq_true v,qb5 v (by decide)⟩,?_⟩;conv=>whnf
            refine⟨⟨rfl,rfl,rfl⟩,?_⟩;conv=>whnf
            exact⟨((a++[(13:UInt8)]),(IntKind.i64.wrap (e+2))),h,wk [1] []⟩
           ·conv=>whnf
            apply ifc h<;>intro c h
            ·conv=>whnf
             refine⟨id,id,?_⟩;conv=>whnf
             refine bq h fun _ E h=>?_;refine⟨_,fun f=>qc8 (qad E f),?_⟩;conv=>whnf
             refine⟨id,?_⟩;conv=>whnf
             refine bq h fun _ D h=>?_;refine⟨_,fun f=>(qu7 n _ _ (qad D f)),?_⟩;conv=>whnf
             refine⟨id,id,id,id,id,?_⟩;conv=>whnf
             refine bq h fun _ C h=>?_;refine⟨_,fun f=>qc8 (qad C f),?_⟩;conv=>whnf
             refine⟨id,?_⟩;conv=>whnf
             refine bq h fun _ A h=>?_;refine⟨_,fun f=>(qu7 n _ _ (qad A f)),?_⟩;conv=>whnf
             refine⟨id,id,?_⟩;conv=>whnf
             apply ifc h<;>intro c h
             ·obtain rfl:=sj h
              conv=>whnf
              try exact fin
             ·conv=>whnf
              refine bq h fun _ z h=>?_;refine⟨_,qc8 z,?_⟩;conv=>whnf
              refine bq h fun N y h=>?_;refine⟨_,(qu7 n _ _ y),?_⟩;conv=>whnf
              refine bq h fun _ x h=>?_;refine⟨_,qc8 x,?_⟩;conv=>whnf
              refine bq h fun O w h=>?_;refine⟨_,(qu7 n _ _ w),?_⟩;conv=>whnf
              refine bq h fun i L h=>?_;rw[show([[PV.int .u8 (IntKind.u8.wrap (IntKind.i64.wrap ((IntKind.i64.wrap (N * (16:Int)))+O)))]]:List (List PV))=qau [i]from by rw[qeu L]; rfl];refine⟨Codec.one qdm [i],_,.inl rfl,?_⟩;conv=>whnf
              rw[show qau a++qau [i]=qau (a++[i])from Codec.append qdm a [i]];conv=>whnf
              obtain⟨o,h⟩:=qai h;refine⟨⟨Codec.wide qdm (a++[i]),of_decide_eq_true o,qb5 o (by decide)⟩,?_⟩;conv=>whnf
              refine⟨⟨rfl,rfl,rfl⟩,?_⟩;conv=>whnf
              exact⟨((a++[i]),(IntKind.i64.wrap ((IntKind.i64.wrap (e+2))+2))),h,wk [1] []⟩
            ·obtain rfl:=sj h
             conv=>whnf
             try exact fin
       ·conv=>whnf
        apply ifc h<;>intro c h
        ·conv=>whnf
         exact⟨(((d.toNat:Nat):Int)==92),h,wk [0] []⟩
        ·conv=>whnf
         exact⟨(((d.toNat:Nat):Int)==39),h,wk [0] []⟩
  ·obtain rfl:=sj h
   conv=>whnf
   try exact fin
abbrev zgk (r:SS):PV:=PV.str r
def qxg (n:Nat) (c:SS) (d e:Nat):(Int->Option SS)->Int->Option SS:=fun g a=>
 bif(decide (a<((([40,41,91,93,123,125,44,58,46,43,45,42,47,37,61,60,62,36]:SS).length:Nat):Int)))then(
 bnd (qwb (IntKind.i64.wrap (a+1))) fun b=>
 bnd (qwb a) fun f=>
 chk (decide (f<=b/\b<=([40,41,91,93,123,125,44,58,46,43,45,42,47,37,61,60,62,36]:SS).length)) (
 bif(((([40,41,91,93,123,125,44,58,46,43,45,42,47,37,61,60,62,36]:SS).take b).drop f)==((c.take d).drop e))then(
 some ((c.take d).drop e))
 else(
 g (IntKind.i64.wrap (a+1)))))
 else(
 some ([]:SS))
def qtg (n:Nat) (d:Int) (c:SS):SS->Option SS:=fun a=>
 bif(bif(bif(a==([60,61]:SS))then true else(a==([62,61]:SS)))then true else(a==([60,62]:SS)))then(
 some a)
 else(
 bnd (qwb (IntKind.i64.wrap (d+1))) fun b=>
 bnd (qwb d) fun e=>
 chk (decide (e<=b/\b<=c.length)) (
 qam (qxg n c b e) n (0:Int)))
def q42 (n:Nat) (a:SS) (b:Int):Option SS:=
 bif(decide ((IntKind.i64.wrap (b+1))<((a.length:Nat):Int)))then(
 bnd (qwb (IntKind.i64.wrap (b+2))) fun c=>
 bnd (qwb b) fun d=>
 chk (decide (d<=c/\c<=a.length)) (
 qtg n b a ((a.take c).drop d)))
 else(
 qtg n b a ([]:SS))
theorem zdu (n:Nat):∀ (a:SS) (c:Int) (r:SS),q42 n a c=some r->qac Tryz.prog 118 [PV.str a,PV.int .i64 c] (zgk r):=by
 intro a c r h;unfold q42 at h;refine qac.of_vcN mixed (fun _ _=>Tryz.call118 _ _) Tryz.func118 (by kernel_rfl) (inl:=[1000000]) ?_;conv=>whnf
 refine qhe.cut (S:=SS) (fun k=>[(0,pS a),(1,pI c),(5,pS k)]) (fun k=>[]) (qtg n c a) (r:=r) ?_ ?_
 ·intro k h
  unfold qtg at h;conv=>whnf
  refine⟨id,id,id,id,?_⟩;conv=>whnf
  apply ifc h<;>intro i h
  ·obtain rfl:=sj h
   conv=>whnf
   try exact fin
  ·conv=>whnf
   refine bq h fun b v h=>?_;refine⟨_,qct v,?_⟩;conv=>whnf
   refine bq h fun e u h=>?_;refine⟨_,qct u,?_⟩;conv=>whnf
   obtain⟨m,h⟩:=qai h;refine⟨⟨(of_decide_eq_true m:(e<=b/\b<=a.length)).1,(of_decide_eq_true m:(e<=b/\b<=a.length)).2⟩,?_⟩;conv=>whnf
   refine qbi.fn [1000000] (S:=Int) (fun f=>[(6,.p (.str ((a.take b).drop e))),(7,.p (.str ([40,41,91,93,123,125,44,58,46,43,45,42,47,37,61,60,62,36]:SS))),(8,pI f)]) (fun f=>[]) (B:=qxg n a b e) h (wk [] []) ?_;intro _ f h;unfold qxg at h;conv=>whnf
   apply ifc h<;>intro i h
   ·conv=>whnf
    refine bq h fun g t h=>?_;refine⟨_,qct t,?_⟩;conv=>whnf
    refine bq h fun q s h=>?_;refine⟨_,qct s,?_⟩;conv=>whnf
    obtain⟨l,h⟩:=qai h;refine⟨⟨(of_decide_eq_true l:(q<=g/\g<=([40,41,91,93,123,125,44,58,46,43,45,42,47,37,61,60,62,36]:SS).length)).1,(of_decide_eq_true l:(q<=g/\g<=([40,41,91,93,123,125,44,58,46,43,45,42,47,37,61,60,62,36]:SS).length)).2⟩,?_⟩;conv=>whnf
    apply ifc h<;>intro i h
    ·obtain rfl:=sj h
     conv=>whnf
     try exact fin
    ·conv=>whnf
     exact⟨(IntKind.i64.wrap (f+1)),h,wk [] []⟩
   ·obtain rfl:=sj h
    conv=>whnf
    try exact fin
 ·conv=>whnf
  apply ifc h<;>intro i h
  ·conv=>whnf
   refine bq h fun d x h=>?_;refine⟨_,qct x,?_⟩;conv=>whnf
   refine bq h fun j w h=>?_;refine⟨_,qct w,?_⟩;conv=>whnf
   obtain⟨o,h⟩:=qai h;refine⟨⟨(of_decide_eq_true o:(j<=d/\d<=a.length)).1,(of_decide_eq_true o:(j<=d/\d<=a.length)).2⟩,?_⟩;conv=>whnf
   exact⟨((a.take d).drop j),h,wk [] []⟩
  ·conv=>whnf
   exact⟨([]:SS),h,wk [] []⟩
abbrev zi7 (r:qap×Int×Int):PV:=PV.tup [PV.agg (qsv.cells r.1),PV.int .i64 r.2.1,PV.int .i64 r.2.2]
def qmw (n:Nat) (a:Int):Int×Int×SS×Int->Option (qap×Int×Int):=fun(b,c,d,e)=>
 some (qap.mk c d e a,b,(0:Int))
def qza (n:Nat) (b:SS) (c:Int):(Int->Option (qap×Int×Int))->Int->Option (qap×Int×Int):=fun j a=>
 bnd (qaw (decide (a<((b.length:Nat):Int))) (idx b a)) fun k=>
 bnd (qaw (decide (a<((b.length:Nat):Int))) (qiy n ((k.toNat:Nat):Int))) fun d=>
 bnd (qaw ((decide (a<((b.length:Nat):Int)))&&(!d)) (idx b a)) fun l=>
 bnd (qaw ((decide (a<((b.length:Nat):Int)))&&(!d)) (qk4 n ((l.toNat:Nat):Int))) fun m=>
 bif(bif(decide (a<((b.length:Nat):Int)))then(bif d then true else m)else false)then(
 j (IntKind.i64.wrap (a+1)))
 else(
 bif(decide ((IntKind.i64.wrap (a - c))>64))then(
 some (qap.mk (0:Int) ([]:SS) (0:Int) c,(0:Int),(1:Int)))
 else(
 bnd (qwb a) fun e=>
 bnd (qwb c) fun g=>
 chk (decide (g<=e/\e<=b.length)) (
 bnd (qtt n ((b.take e).drop g)) fun⟨o,p⟩=>
 bnd (qwb a) fun f=>
 bnd (qwb c) fun i=>
 chk (decide (i<=f/\f<=b.length)) (
 bif p then(
 qmw n c (a,(2:Int),o,(0:Int)))
 else(
 qmw n c (a,(1:Int),((b.take f).drop i),(0:Int)))))))
def qzb (n:Nat) (b:SS) (c:Int):(Int->Option (qap×Int×Int))->Int->Option (qap×Int×Int):=fun g a=>
 bnd (qaw (decide (a<((b.length:Nat):Int))) (idx b a)) fun i=>
 bnd (qaw (decide (a<((b.length:Nat):Int))) (qk4 n ((i.toNat:Nat):Int))) fun j=>
 bif(bif(decide (a<((b.length:Nat):Int)))then j else false)then(
 g (IntKind.i64.wrap (a+1)))
 else(
 bnd (qwb a) fun d=>
 bnd (qwb c) fun e=>
 chk (decide (e<=d/\d<=b.length)) (
 bnd (q18 n ((b.take d).drop e)) fun⟨k,f⟩=>
 bif(f != 0)then(
 some (qap.mk (0:Int) ([]:SS) (0:Int) c,(0:Int),f))
 else(
 qmw n c (a,(3:Int),([]:SS),k))))
def q8q (n:Nat) (b:SS) (a:Int):Option (qap×Int×Int):=
 bnd (idx b a) fun d=>
 bnd (qiy n ((d.toNat:Nat):Int)) fun j=>
 bif j then(
 qam (qza n b a) n (IntKind.i64.wrap (a+1)))
 else(
 bnd (qk4 n ((d.toNat:Nat):Int)) fun e=>
 bif e then(
 qam (qzb n b a) n (IntKind.i64.wrap (a+1)))
 else(
 bif(((d.toNat:Nat):Int)==39)then(
 bnd (qy9 n b a) fun⟨f,g,i⟩=>
 bif(!i)then(
 some (qap.mk (0:Int) ([]:SS) (0:Int) a,(0:Int),(1:Int)))
 else(
 qmw n a (g,(4:Int),f,(0:Int))))
 else(
 bnd (q42 n b a) fun c=>
 bif(c==([]:SS))then(
 some (qap.mk (5:Int) c (0:Int) a,(0:Int),(1:Int)))
 else(
 qmw n a ((IntKind.i64.wrap (a+((c.length:Nat):Int))),(5:Int),c,(0:Int))))))
set_option maxHeartbeats 4000000 in
theorem zgc (n:Nat):∀ (a:SS) (b:Int) (r:qap×Int×Int),q8q n a b=some r->qac Tryz.prog 73 [PV.str a,PV.int .i64 b] (zi7 r):=by
 intro a b r h;unfold q8q at h;refine qac.of_vcN mixed (fun _ _=>Tryz.call73 _ _) Tryz.func73 (by kernel_rfl) (inl:=[1000000]) ?_;conv=>whnf
 refine bq h fun _ K h=>?_;refine⟨_,qc8 K,?_⟩;conv=>whnf
 refine qhe.cut (S:=Int×Int×SS×Int) (fun(l,m,o,p)=>[(4,.ptr 0 0),(7,.ptr 1 0),(9,pI l)]) (fun(l,m,o,p)=>[.box 115 [zq0,zq1,zq0,zq0],.box 115 [pI m,pS o,pI p,pI b]]) (qmw n b) (r:=r) ?_ ?_
 ·intro st h
  obtain⟨l,m,o,p⟩:=st;unfold qmw at h;obtain rfl:=sj h;conv=>whnf
  try exact fin
 ·conv=>whnf
  refine bq h fun _ J h=>?_;refine⟨_,(qqm n _ _ J),?_⟩;conv=>whnf
  apply ifc h<;>intro d h
  ·conv=>whnf
   refine qbi.fn [1000000] (S:=Int) (fun e=>[(0,pS a),(1,pI b),(4,.ptr 0 0),(7,.ptr 1 0),(9,pI e)]) (fun e=>[.box 115 [zq0,zq1,zq0,zq0],.box 115 [zq0,zq1,zq0,pI b]]) (B:=qza n a b) h (wk [0,1] []) ?_;intro _ e h;unfold qza at h;conv=>whnf
   refine⟨id,id,?_⟩;conv=>whnf
   refine bq h fun _ y h=>?_;refine⟨_,fun c=>qc8 (qad y c),?_⟩;conv=>whnf
   refine⟨id,?_⟩;conv=>whnf
   refine bq h fun _ x h=>?_;refine⟨_,fun c=>(qqm n _ _ (qad x c)),?_⟩;conv=>whnf
   refine⟨id,id,id,?_⟩;conv=>whnf
   refine bq h fun _ Q h=>?_;refine⟨_,fun c=>qc8 (qad Q c),?_⟩;conv=>whnf
   refine⟨id,?_⟩;conv=>whnf
   refine bq h fun _ P h=>?_;refine⟨_,fun c=>(qot n _ _ (qad P c)),?_⟩;conv=>whnf
   refine⟨id,id,id,?_⟩;conv=>whnf
   apply ifc h<;>intro d h
   ·conv=>whnf
    exact⟨(IntKind.i64.wrap (e+1)),h,wk [0,1] []⟩
   ·conv=>whnf
    apply ifc h<;>intro d h
    ·obtain rfl:=sj h
     conv=>whnf
     try exact fin
    ·conv=>whnf
     refine bq h fun i O h=>?_;refine⟨_,qct O,?_⟩;conv=>whnf
     refine bq h fun u N h=>?_;refine⟨_,qct N,?_⟩;conv=>whnf
     obtain⟨t,h⟩:=qai h;refine⟨⟨(of_decide_eq_true t:(u<=i/\i<=a.length)).1,(of_decide_eq_true t:(u<=i/\i<=a.length)).2⟩,?_⟩;conv=>whnf
     refine bq h fun⟨R,_⟩ M h=>?_;refine⟨_,(q3e n _ _ M),?_⟩;conv=>whnf
     refine bq h fun f L h=>?_;refine⟨_,qct L,?_⟩;conv=>whnf
     refine bq h fun k H h=>?_;refine⟨_,qct H,?_⟩;conv=>whnf
     obtain⟨q,h⟩:=qai h;refine⟨⟨(of_decide_eq_true q:(k<=f/\f<=a.length)).1,(of_decide_eq_true q:(k<=f/\f<=a.length)).2⟩,?_⟩;conv=>whnf
     apply ifc h<;>intro d h
     ·conv=>whnf
      exact⟨(e,(2:Int),R,(0:Int)),h,wk [0,1] []⟩
     ·conv=>whnf
      exact⟨(e,(1:Int),((a.take f).drop k),(0:Int)),h,wk [0,1] []⟩
  ·conv=>whnf
   refine bq h fun _ I h=>?_;refine⟨_,(qot n _ _ I),?_⟩;conv=>whnf
   apply ifc h<;>intro d h
   ·conv=>whnf
    refine qbi.fn [1000000] (S:=Int) (fun g=>[(0,pS a),(1,pI b),(4,.ptr 0 0),(7,.ptr 1 0),(9,pI g)]) (fun g=>[.box 115 [zq0,zq1,zq0,zq0],.box 115 [zq0,zq1,zq0,pI b]]) (B:=qzb n a b) h (wk [0,1] []) ?_;intro _ g h;unfold qzb at h;conv=>whnf
    refine⟨id,id,?_⟩;conv=>whnf
    refine bq h fun _ E h=>?_;refine⟨_,fun c=>qc8 (qad E c),?_⟩;conv=>whnf
    refine⟨id,?_⟩;conv=>whnf
    refine bq h fun _ D h=>?_;refine⟨_,fun c=>(qot n _ _ (qad D c)),?_⟩;conv=>whnf
    refine⟨id,?_⟩;conv=>whnf
    apply ifc h<;>intro d h
    ·conv=>whnf
     exact⟨(IntKind.i64.wrap (g+1)),h,wk [0,1] []⟩
    ·conv=>whnf
     refine bq h fun j C h=>?_;refine⟨_,qct C,?_⟩;conv=>whnf
     refine bq h fun v A h=>?_;refine⟨_,qct A,?_⟩;conv=>whnf
     obtain⟨s,h⟩:=qai h;refine⟨⟨(of_decide_eq_true s:(v<=j/\j<=a.length)).1,(of_decide_eq_true s:(v<=j/\j<=a.length)).2⟩,?_⟩;conv=>whnf
     refine bq h fun⟨T,_⟩ z h=>?_;refine⟨_,(za2 n _ _ z),?_⟩;conv=>whnf
     apply ifc h<;>intro d h
     ·obtain rfl:=sj h
      conv=>whnf
      try exact fin
     ·conv=>whnf
      exact⟨(g,(3:Int),([]:SS),T),h,wk [0,1] []⟩
   ·conv=>whnf
    apply ifc h<;>intro d h
    ·conv=>whnf
     refine bq h fun⟨U,V,_⟩ F h=>?_;refine⟨_,(q8p n _ _ _ F),?_⟩;conv=>whnf
     apply ifc h<;>intro d h
     ·obtain rfl:=sj h
      conv=>whnf
      try exact fin
     ·conv=>whnf
      exact⟨(V,(4:Int),U,(0:Int)),h,wk [0,1] []⟩
    ·conv=>whnf
     refine bq h fun w G h=>?_;refine⟨_,(zdu n _ _ _ G),?_⟩;conv=>whnf
     apply ifc h<;>intro d h
     ·obtain rfl:=sj h
      conv=>whnf
      try exact fin
     ·conv=>whnf
      exact⟨((IntKind.i64.wrap (b+((w.length:Nat):Int))),(5:Int),w,(0:Int)),h,wk [0,1] []⟩
abbrev zgi (r:List qap×Int×Int):PV:=PV.tup [PV.sl (qap.rows r.1),PV.int .i64 r.2.1,PV.int .i64 r.2.2]
def qtf (n:Nat) (b:List qap) (g:Int) (f:List qap×Int->Option (List qap×Int×Int)):Int×Int×SS×Int×Int->Option (List qap×Int×Int):=fun(i,a,c,d,e)=>
 bif(decide (((qap.rows b).length:Int)≥4096))then(
 some (([]:List qap),g,(8:Int)))
 else(
 chk (decide ((qap.rows (b++[qap.mk a c d e])).length * 40<=140737488355328)) (
 bif(a==6)then(
 some ((b++[qap.mk a c d e]),(0:Int),(0:Int)))
 else(
 f ((b++[qap.mk a c d e]),i))))
def qxf (n:Nat) (b:SS) (g:List qap) (e:List qap×Int->Option (List qap×Int×Int)):(Int->Option (List qap×Int×Int))->Int->Option (List qap×Int×Int):=fun j a=>
 bnd (qaw (decide (a<((b.length:Nat):Int))) (idx b a)) fun c=>
 bnd (qaw ((decide (a<((b.length:Nat):Int)))&&(!(((c.toNat:Nat):Int)==32))) (idx b a)) fun d=>
 bnd (qaw ((decide (a<((b.length:Nat):Int)))&&(!(bif(((c.toNat:Nat):Int)==32)then true else(((d.toNat:Nat):Int)==9)))) (idx b a)) fun i=>
 bnd (qaw ((decide (a<((b.length:Nat):Int)))&&(!(bif(bif(((c.toNat:Nat):Int)==32)then true else(((d.toNat:Nat):Int)==9))then true else(((i.toNat:Nat):Int)==10)))) (idx b a)) fun q=>
 bif(bif(decide (a<((b.length:Nat):Int)))then(bif(bif(bif(((c.toNat:Nat):Int)==32)then true else(((d.toNat:Nat):Int)==9))then true else(((i.toNat:Nat):Int)==10))then true else(((q.toNat:Nat):Int)==13))else false)then(
 j (IntKind.i64.wrap (a+1)))
 else(
 bif(decide (a<((b.length:Nat):Int)))then(
 bnd (q8q n b a) fun⟨⟨k,l,m,o⟩,p,f⟩=>
 bif(f != 0)then(
 some (([]:List qap),a,f))
 else(
 qtf n g a e (p,k,l,m,o)))
 else(
 qtf n g a e (a,(6:Int),([]:SS),(0:Int),a)))
def qxe (n:Nat) (b:SS):(List qap×Int->Option (List qap×Int×Int))->List qap×Int->Option (List qap×Int×Int):=fun a (c,d)=>
 qam (qxf n b c a) n d
def q41 (n:Nat) (a:SS):Option (List qap×Int×Int):=
 bif(decide (((a.length:Nat):Int)>16384))then(
 some (([]:List qap),(0:Int),(8:Int)))
 else(
 qam (qxe n a) n (([]:List _),(0:Int)))
set_option maxHeartbeats 4000000 in
theorem zds (n:Nat):∀ (f:SS) (r:List qap×Int×Int),q41 n f=some r->qac Tryz.prog 46 [PV.str f] (zgi r):=by
 intro f r h;unfold q41 at h;refine qac.of_vcN mixed (fun _ _=>Tryz.call46 _ _) Tryz.func46 (by kernel_rfl) (inl:=[1000000]) ?_;conv=>whnf
 apply ifc h<;>intro j h
 ·obtain rfl:=sj h
  conv=>whnf
  try exact fin
 ·conv=>whnf
  refine qbi.fn [1000000] (S:=List qap×Int) (fun(a,l)=>[(0,pS f),(5,.tsl 0 (qap.rows a)),(6,pI l)]) (fun(a,l)=>[.tail 115 4 (qap.rows a).length]) (B:=qxe n f) h (wk [0] [0]) ?_;intro o st h;obtain⟨a,l⟩:=st;unfold qxe at h;conv=>whnf
  refine qbi.fn [1000000] (S:=Int) (fun g=>[(0,pS f),(5,.tsl 0 (qap.rows a)),(6,pI g)]) (fun g=>[.tail 115 4 (qap.rows a).length]) (B:=qxf n f a o) h (wk [0] []) ?_;intro _ g h;unfold qxf at h;conv=>whnf
  refine⟨id,id,?_⟩;conv=>whnf
  refine bq h fun _ u h=>?_;refine⟨_,fun i=>qc8 (qad u i),?_⟩;conv=>whnf
  refine⟨id,id,id,id,?_⟩;conv=>whnf
  refine bq h fun _ t h=>?_;refine⟨_,fun i=>qc8 (qad t i),?_⟩;conv=>whnf
  iterate 6 refine⟨id,?_⟩
  conv=>whnf
  refine bq h fun _ s h=>?_;refine⟨_,fun i=>qc8 (qad s i),?_⟩;conv=>whnf
  iterate 6 refine⟨id,?_⟩
  conv=>whnf
  refine bq h fun _ q h=>?_;refine⟨_,fun i=>qc8 (qad q i),?_⟩;conv=>whnf
  refine⟨id,id,id,id,?_⟩;conv=>whnf
  apply ifc h<;>intro j h
  ·conv=>whnf
   exact⟨(IntKind.i64.wrap (g+1)),h,wk [0] []⟩
  ·conv=>whnf
   refine qhe.cut (S:=Int×Int×SS×Int×Int) (fun(k,b,c,d,e)=>[(0,pS f),(5,.tsl 0 (qap.rows a)),(6,pI g),(7,.ptr 1 0),(8,pI k)]) (fun(k,b,c,d,e)=>[.tail 115 4 (qap.rows a).length,.box 115 [pI b,pS c,pI d,pI e]]) (qtf n a g o) (r:=r) ?_ ?_
   ·intro st h
    obtain⟨k,b,c,d,e⟩:=st;unfold qtf at h;conv=>whnf
    apply ifc h<;>intro j h
    ·obtain rfl:=sj h
     conv=>whnf
     try exact fin
    ·conv=>whnf
     refine⟨Codec.one qsv [qap.mk b c d e],qap.rows [qap.mk b c d e],.inl rfl,?_⟩;conv=>whnf
     rw[show qap.rows a++qap.rows [qap.mk b c d e]=qap.rows (a++[qap.mk b c d e])from Codec.append qsv a [qap.mk b c d e]];conv=>whnf
     obtain⟨m,h⟩:=qai h;refine⟨⟨Codec.wide qsv (a++[qap.mk b c d e]),of_decide_eq_true m,qb5 m (by decide)⟩,?_⟩;conv=>whnf
     refine⟨⟨rfl,rfl,rfl⟩,?_⟩;conv=>whnf
     apply ifc h<;>intro j h
     ·obtain rfl:=sj h
      conv=>whnf
      try exact fin
     ·conv=>whnf
      exact⟨((a++[qap.mk b c d e]),k),h,wk [2] []⟩
   ·conv=>whnf
    apply ifc h<;>intro j h
    ·conv=>whnf
     refine bq h fun⟨⟨v,w,x,y⟩,z,_⟩ p h=>?_;refine⟨_,(zgc n _ _ _ p),?_⟩;conv=>whnf
     apply ifc h<;>intro j h
     ·obtain rfl:=sj h
      conv=>whnf
      try exact fin
     ·conv=>whnf
      exact⟨(z,v,w,x,y),h,wk [0,1] []⟩
    ·conv=>whnf
     exact⟨(g,(6:Int),([]:SS),(0:Int),g),h,wk [0,1] []⟩
abbrev zb1 (r:Bool):PV:=PV.bool r
def qi2 (n:Nat) (a:Int):Option (Bool):=
 some (bif(bif(bif(bif(a==4)then true else(a==5))then true else(a==6))then true else(a==7))then true else(a==8))
theorem qua (n:Nat):∀ (a:Int) (r:Bool),qi2 n a=some r->qac Tryz.prog 16 [PV.int .i64 a] (zb1 r):=by
 intro a r h;unfold qi2 at h;refine qac.of_vcN mixed (fun _ _=>Tryz.call16 _ _) Tryz.func16 (by kernel_rfl) (inl:=[1000000]) ?_;conv=>whnf
 iterate 8 refine⟨id,?_⟩
 obtain rfl:=sj h;conv=>whnf
 try exact fin
abbrev zgn (_:List qap) (_:Int) (_ r:Bool):FV:=pB r
abbrev zge (a:List qap) (b:Int) (c r:Bool):List AObj:=[.box 113 [pK a,pI b,pB c]]
def qev (n:Nat) (b:SS) (c:List qap) (d:Int) (e:Bool):Option (Bool):=
 bnd (idx c d) fun⟨a,f,_,_⟩=>
 some (bif(bif(!e)then(bif(a==5)then true else(a==2))else false)then(f==b)else false)
theorem qdn (n:Nat):∀ (d:SS) (a:List qap) (b:Int) (c r:Bool),qev n d a b c=some r->qaz Tryz.prog 83 [.ptr 0 0,.p (PV.str d)] [.box 113 [pK a,pI b,pB c]] 1 (fun v lo=>v=zgn a b c r/\lo=zge a b c r):=by
 intro d a b c r h;unfold qev at h;refine qaz.of_vc mixed (fun _ _=>Tryz.call83 _ _) Tryz.func83 (by kernel_rfl) (inl:=[40000001,1000000]) (Nat.le_of_ble_eq_true rfl) ?_;conv=>whnf
 refine bq h fun⟨_,_,_,_⟩ e h=>?_;refine⟨_,Codec.at_ qsv e,?_⟩;conv=>whnf
 iterate 12 refine⟨id,?_⟩
 obtain rfl:=sj h;conv=>whnf
 refine⟨_,_,⟨rfl,rfl⟩,wk [0] []⟩
abbrev zeq (_:List qap) (_:Int) (_:Bool) (r:Bool×Int):FV:=.p (.bool r.1)
abbrev zed (a:List qap) (_:Int) (b:Bool) (r:Bool×Int):List AObj:=[.box 113 [pK a,.p (.int .i64 r.2),pB b]]
def qaq (n:Nat) (b:SS) (c:List qap) (a:Int) (d:Bool):Option (Bool×Int):=
 bnd (qev n b c a d) fun e=>
 bif(!e)then(
 some (false,a))
 else(
 some (true,(IntKind.i64.wrap (a+1))))
theorem qal (n:Nat):∀ (d:SS) (a:List qap) (b:Int) (c:Bool) (r:Bool×Int),qaq n d a b c=some r->qaz Tryz.prog 74 [.ptr 0 0,.p (PV.str d)] [.box 113 [pK a,pI b,pB c]] 1 (fun v lo=>v=zeq a b c r/\lo=zed a b c r):=by
 intro d a b c r h;unfold qaq at h;refine qaz.of_vc mixed (fun _ _=>Tryz.call74 _ _) Tryz.func74 (by kernel_rfl) (inl:=[83,1000000]) (Nat.le_of_ble_eq_true rfl) ?_;conv=>whnf
 refine bq h fun f e h=>?_;refine qcq (qdn n _ _ _ _ _ e) [0] [] ?_;rintro _ _ ⟨rfl,rfl⟩;refine⟨pB f,[.box 113 [pK a,pI b,pB c]],rfl,rfl,?_⟩;conv=>whnf
 apply ifc h<;>intro _ h
 ·obtain rfl:=sj h
  conv=>whnf
  refine⟨_,_,⟨rfl,rfl⟩,wk [0] []⟩
 ·obtain rfl:=sj h
  conv=>whnf
  refine⟨_,_,⟨rfl,rfl⟩,wk [0] []⟩
abbrev zb3 (_:List qap) (_:Int) (_:Bool) (r:Int×Bool):FV:=.p (.tup [])
abbrev zbr (a:List qap) (_:Int) (_:Bool) (r:Int×Bool):List AObj:=[.box 113 [pK a,.p (.int .i64 r.1),.p (.bool r.2)]]
def qbv (n:Nat) (c:SS) (d:List qap) (e:Int) (a:Bool):Option (Int×Bool):=
 bnd (qaq n c d e a) fun⟨f,b⟩=>
 bif(!f)then(
 some (b,true))
 else(
 some (b,a))
theorem qa8 (n:Nat):∀ (d:SS) (a:List qap) (c:Int) (b:Bool) (r:Int×Bool),qbv n d a c b=some r->qaz Tryz.prog 78 [.ptr 0 0,.p (PV.str d)] [.box 113 [pK a,pI c,pB b]] 1 (fun v lo=>v=zb3 a c b r/\lo=zbr a c b r):=by
 intro d a c b r h;unfold qbv at h;refine qaz.of_vc mixed (fun _ _=>Tryz.call78 _ _) Tryz.func78 (by kernel_rfl) (inl:=[74,1000000]) (Nat.le_of_ble_eq_true rfl) ?_;conv=>whnf
 refine bq h fun⟨f,g⟩ e h=>?_;refine qcq (qal n _ _ _ _ _ e) [0] [] ?_;rintro _ _ ⟨rfl,rfl⟩;refine⟨pB f,[.box 113 [pK a,pI g,pB b]],rfl,rfl,?_⟩;conv=>whnf
 apply ifc h<;>intro _ h
 ·obtain rfl:=sj h
  conv=>whnf
  refine⟨_,_,⟨rfl,rfl⟩,wk [0] []⟩
 ·obtain rfl:=sj h
  conv=>whnf
  refine⟨_,_,⟨rfl,rfl⟩,wk [0] []⟩
abbrev zb4 (_:List qap) (_:Int) (_:Bool) (r:SS×Int×Bool):FV:=.p (.str r.1)
abbrev zbs (a:List qap) (_:Int) (_:Bool) (r:SS×Int×Bool):List AObj:=[.box 113 [pK a,.p (.int .i64 r.2.1),.p (.bool r.2.2)]]
def qht (n:Nat) (c:List qap) (a:Int) (b:Bool):Option (SS×Int×Bool):=
 bnd (idx c a) fun⟨d,e,_,_⟩=>
 bif(bif b then true else(d != 1))then(
 some (([]:SS),a,true))
 else(
 some (e,(IntKind.i64.wrap (a+1)),b))
theorem qgm (n:Nat):∀ (a:List qap) (b:Int) (c:Bool) (r:SS×Int×Bool),qht n a b c=some r->qaz Tryz.prog 79 [.ptr 0 0] [.box 113 [pK a,pI b,pB c]] 1 (fun v lo=>v=zb4 a b c r/\lo=zbs a b c r):=by
 intro a b c r h;unfold qht at h;refine qaz.of_vc mixed (fun _ _=>Tryz.call79 _ _) Tryz.func79 (by kernel_rfl) (inl:=[40000001,1000000]) (Nat.le_of_ble_eq_true rfl) ?_;conv=>whnf
 refine bq h fun⟨_,_,_,_⟩ d h=>?_;refine⟨_,Codec.at_ qsv d,?_⟩;conv=>whnf
 refine⟨id,id,id,?_⟩;conv=>whnf
 apply ifc h<;>intro _ h
 ·obtain rfl:=sj h
  conv=>whnf
  refine⟨_,_,⟨rfl,rfl⟩,wk [0] []⟩
 ·obtain rfl:=sj h
  conv=>whnf
  refine⟨_,_,⟨rfl,rfl⟩,wk [0] []⟩
abbrev q3q (_:List qap) (_:Int) (_:Bool) (r:SS×Int×Bool):FV:=.p (.str r.1)
abbrev q3m (a:List qap) (_:Int) (_:Bool) (r:SS×Int×Bool):List AObj:=[.box 113 [pK a,.p (.int .i64 r.2.1),.p (.bool r.2.2)]]
def qlk (n:Nat) (c:List qap) (b:Int) (a:Bool):Option (SS×Int×Bool):=
 bnd (qaw (!a) (idx c b)) fun⟨e,_,_,_⟩=>
 bif(bif a then true else(e != 1))then(
 some (([]:SS),b,a))
 else(
 bnd (qht n c b a) fun⟨f,g,d⟩=>
 some (f,g,d))
theorem qps (n:Nat):∀ (a:List qap) (b:Int) (c:Bool) (r:SS×Int×Bool),qlk n a b c=some r->qaz Tryz.prog 122 [.ptr 0 0] [.box 113 [pK a,pI b,pB c]] 1 (fun v lo=>v=q3q a b c r/\lo=q3m a b c r):=by
 intro a b c r h;unfold qlk at h;refine qaz.of_vc mixed (fun _ _=>Tryz.call122 _ _) Tryz.func122 (by kernel_rfl) (inl:=[79,1000000]) (Nat.le_of_ble_eq_true rfl) ?_;conv=>whnf
 iterate 8 refine⟨id,?_⟩
 conv=>whnf
 refine bq h fun⟨_,_,_,_⟩ e h=>?_;refine⟨_,fun f=>Codec.at_ qsv (qad e f),?_⟩;conv=>whnf
 refine⟨id,id,id,id,?_⟩;conv=>whnf
 apply ifc h<;>intro _ h
 ·obtain rfl:=sj h
  conv=>whnf
  refine⟨_,_,⟨rfl,rfl⟩,wk [0] []⟩
 ·conv=>whnf
  refine bq h fun⟨i,j,g⟩ d h=>?_;refine qcq (qgm n _ _ _ _ d) [0] [] ?_;rintro _ _ ⟨rfl,rfl⟩;refine⟨pS i,[.box 113 [pK a,pI j,pB g]],rfl,rfl,?_⟩;obtain rfl:=sj h;conv=>whnf
  refine⟨_,_,⟨rfl,rfl⟩,wk [0] []⟩
abbrev zi8 (r:Bool):PV:=PV.bool r
def qkh (n:Nat) (a:SS):Option (Bool):=
 some (bif(decide (((a.length:Nat):Int)≥1))then(decide (((a.length:Nat):Int)<=64))else false)
theorem qiz (n:Nat):∀ (a:SS) (r:Bool),qkh n a=some r->qac Tryz.prog 110 [PV.str a] (zi8 r):=by
 intro a r h;unfold qkh at h;refine qac.of_vcN mixed (fun _ _=>Tryz.call110 _ _) Tryz.func110 (by kernel_rfl) (inl:=[1000000]) ?_;conv=>whnf
 refine⟨id,id,id,?_⟩;obtain rfl:=sj h;conv=>whnf
 try exact fin
abbrev zer (_:List qap) (_:Int) (_:Bool) (r:SS×Int×Bool):FV:=.p (.str r.1)
abbrev zee (a:List qap) (_:Int) (_:Bool) (r:SS×Int×Bool):List AObj:=[.box 113 [pK a,.p (.int .i64 r.2.1),.p (.bool r.2.2)]]
def qju (n:Nat) (e:List qap) (b:Int) (c:Bool):Option (SS×Int×Bool):=
 bnd (idx e b) fun⟨a,d,_,_⟩=>
 bnd (qaw (((!c)&&(a != 1))&&(!(a != 4))) (qkh n d)) fun f=>
 bif(bif c then true else(bif(a != 1)then(bif(a != 4)then true else(!f))else false))then(
 some (([]:SS),b,true))
 else(
 some (d,(IntKind.i64.wrap (b+1)),c))
theorem qhs (n:Nat):∀ (a:List qap) (b:Int) (c:Bool) (r:SS×Int×Bool),qju n a b c=some r->qaz Tryz.prog 123 [.ptr 0 0] [.box 113 [pK a,pI b,pB c]] 1 (fun v lo=>v=zer a b c r/\lo=zee a b c r):=by
 intro a b c r h;unfold qju at h;refine qaz.of_vc mixed (fun _ _=>Tryz.call123 _ _) Tryz.func123 (by kernel_rfl) (inl:=[40000001,1000000]) (Nat.le_of_ble_eq_true rfl) ?_;conv=>whnf
 refine bq h fun⟨_,_,_,_⟩ e h=>?_;refine⟨_,Codec.at_ qsv e,?_⟩;conv=>whnf
 iterate 8 refine⟨id,?_⟩
 conv=>whnf
 refine bq h fun _ d h=>?_;refine⟨_,fun f=>(qiz n _ _ (qad d f)),?_⟩;conv=>whnf
 iterate 6 refine⟨id,?_⟩
 conv=>whnf
 apply ifc h<;>intro _ h
 ·obtain rfl:=sj h
  conv=>whnf
  refine⟨_,_,⟨rfl,rfl⟩,wk [0] []⟩
 ·obtain rfl:=sj h
  conv=>whnf
  refine⟨_,_,⟨rfl,rfl⟩,wk [0] []⟩
abbrev zjb (r:qaa):PV:=PV.agg (qck.cells r)
def qsc (n:Nat) (b:Int) (a:qaa):Option (qaa):=
 match a with
 | ⟨e,f,⟨g,i,j,k,l,m⟩,c,d⟩=>
 some (qaa.mk b ([]:SS) (Val.mk (0:Int) false (0:Int) ([]:SS) ([]:List Val) ([]:List SS)) ([]:List SS) [qaa.mk e f (Val.mk g i j k l m) c d])
theorem qp7 (n:Nat):∀ (b:Int) (a r:qaa),qsc n b a=some r->qac Tryz.prog 177 [PV.int .i64 b,PV.agg (qck.cells a)] (zjb r):=by
 intro b a r h;obtain⟨e,f,⟨g,i,j,k,l,m⟩,c,d⟩:=a;unfold qsc at h;refine qac.of_vcN mixed (fun _ _=>Tryz.call177 _ _) Tryz.func177 (by kernel_rfl) (inl:=[1000000]) ?_;conv=>whnf
 refine⟨Codec.one qck [qaa.mk e f (Val.mk g i j k l m) c d],qaa.rows [qaa.mk e f (Val.mk g i j k l m) c d],.inl rfl,?_⟩;obtain rfl:=sj h;conv=>whnf
 try exact fin
abbrev q5e (r:Bool):PV:=PV.bool r
def qkg (n:Nat) (a:SS):Option (Bool):=
 some (bif(bif(bif(bif(a==([99,111,117,110,116]:SS))then true else(a==([115,117,109]:SS)))then true else(a==([109,105,110]:SS)))then true else(a==([109,97,120]:SS)))then true else(a==([99,111,108,108,101,99,116]:SS)))
theorem qqo (n:Nat):∀ (a:SS) (r:Bool),qkg n a=some r->qac Tryz.prog 172 [PV.str a] (q5e r):=by
 intro a r h;unfold qkg at h;refine qac.of_vcN mixed (fun _ _=>Tryz.call172 _ _) Tryz.func172 (by kernel_rfl) (inl:=[1000000]) ?_;conv=>whnf
 iterate 8 refine⟨id,?_⟩
 obtain rfl:=sj h;conv=>whnf
 try exact fin
abbrev zjc (r:qaa):PV:=PV.agg (qck.cells r)
def qll (n:Nat) (c:SS) (a b:qaa):Option (qaa):=
 match a,b with
 | ⟨p,t,⟨u,v,w,x,y,z⟩,d,e⟩,⟨f,g,⟨i,j,k,l,m,o⟩,q,s⟩=>
 some (qaa.mk (10:Int) c (Val.mk (0:Int) false (0:Int) ([]:SS) ([]:List Val) ([]:List SS)) ([]:List SS) [qaa.mk p t (Val.mk u v w x y z) d e,qaa.mk f g (Val.mk i j k l m o) q s])
theorem qhu (n:Nat):∀ (c:SS) (a b r:qaa),qll n c a b=some r->qac Tryz.prog 121 [PV.str c,PV.agg (qck.cells a),PV.agg (qck.cells b)] (zjc r):=by
 intro c a b r h;obtain⟨p,t,⟨u,v,w,x,y,z⟩,d,e⟩:=a;obtain⟨f,g,⟨i,j,k,l,m,o⟩,q,s⟩:=b;unfold qll at h;refine qac.of_vcN mixed (fun _ _=>Tryz.call121 _ _) Tryz.func121 (by kernel_rfl) (inl:=[1000000]) ?_;conv=>whnf
 refine⟨Codec.one qck [qaa.mk p t (Val.mk u v w x y z) d e,qaa.mk f g (Val.mk i j k l m o) q s],qaa.rows [qaa.mk p t (Val.mk u v w x y z) d e,qaa.mk f g (Val.mk i j k l m o) q s],.inl rfl,?_⟩;obtain rfl:=sj h;conv=>whnf
 try exact fin
end W
end
