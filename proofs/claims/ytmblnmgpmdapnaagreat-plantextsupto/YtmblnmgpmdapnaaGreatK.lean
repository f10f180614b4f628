/- A part of the proof: contracts, printed by program. -/
import Derived.Test.YtmblnmgpmdapnaaGreatB
import Derived.Test.YtmblnmgpmdapnaaGreatD
import Derived.Test.YtmblnmgpmdapnaaGreatG
import Derived.Test.YtmblnmgpmdapnaaGreatH
import Derived.Test.YtmblnmgpmdapnaaGreatJ
set_option linter.unusedVariables false
set_option linter.unusedSimpArgs false
set_option linter.unnecessarySimpa false
set_option linter.deprecated false
set_option linter.unusedSectionVars false
set_option linter.constructorNameAsVariable false
section
set_option maxRecDepth 100000
open Go Go.Proofs Ax
namespace W
abbrev qvc (r:SS):PV:=PV.str r
def qrh (n:Nat) (g37:Int->Option SS) (a:Int):Option SS:=
 bif(a==(-9223372036854775808:Int))then(
 some ([45,57,50,50,51,51,55,50,48,51,54,56,53,52,55,55,53,56,48,56]:SS))
 else(
 bif(decide (a<0))then(
 bnd (g37 (IntKind.i64.wrap ((0:Int) - a))) fun c=>
 chk (decide (((([45]:SS).length+c.length:Nat):Int)<=qhk)) (
 some (([45]:SS)++c)))
 else(
 bnd (u8I (IntKind.u8.wrap (IntKind.i64.wrap ((48:Int)+(Int.tmod a (10:Int)))))) fun b=>
 bif(decide (a<10))then(
 some [b])
 else(
 bnd (g37 (IntKind.i64.wrap (Int.tdiv a (10:Int)))) fun d=>
 chk (decide (((d.length+[b].length:Nat):Int)<=qhk)) (
 some (d++[b])))))
theorem zay (n:Nat) (g37:Int->Option SS) (g37_ok:∀ (a:Int) (r:SS),g37 a=some r->qac Tryz.prog 37 [PV.int .i64 a] (qvc r)):∀ (a:Int) (r:SS),qrh n g37 a=some r->qac Tryz.prog 37 [PV.int .i64 a] (qvc r):=by
 intro a r h;unfold qrh at h;refine qac.of_vcN mixed (fun _ _=>Tryz.call37 _ _) Tryz.func37 (by kernel_rfl) (inl:=[1000000]) ?_;conv=>whnf
 apply ifc h<;>intro c h
 ·obtain rfl:=sj h
  conv=>whnf
  try exact fin
 ·conv=>whnf
  apply ifc h<;>intro c h
  ·conv=>whnf
   refine bq h fun j e h=>?_;refine⟨_,(g37_ok _ _ e),?_⟩;conv=>whnf
   obtain⟨d,h⟩:=qai h;refine⟨(of_decide_eq_true d:((([45]:SS).length+j.length:Nat):Int)<=qhk),?_⟩;obtain rfl:=sj h;conv=>whnf
   try exact fin
  ·conv=>whnf
   refine⟨by unfold gI; decide,?_⟩;conv=>whnf
   refine bq h fun b f h=>?_;rw[show([[PV.int .u8 (IntKind.u8.wrap (IntKind.i64.wrap ((48:Int)+(Int.tmod a (10:Int)))))]]:List (List PV))=qau [b]from by rw[qeu f]; rfl];refine⟨Codec.one qdm [b],_,.inl rfl,?_⟩;conv=>whnf
   refine⟨_,rfl,?_⟩;conv=>whnf
   apply ifc h<;>intro c h
   ·obtain rfl:=sj h
    conv=>whnf
    try exact fin
   ·conv=>whnf
    refine⟨by unfold gI; decide,?_⟩;conv=>whnf
    refine bq h fun k i h=>?_;refine⟨_,(g37_ok _ _ i),?_⟩;conv=>whnf
    obtain⟨g,h⟩:=qai h;refine⟨(of_decide_eq_true g:((k.length+[b].length:Nat):Int)<=qhk),?_⟩;obtain rfl:=sj h;conv=>whnf
    try exact fin
def qh0:Nat->Int->Option SS
 | 0=>fun _=>none
 | n+1=>qrh n (qh0 n)
theorem za3 (n:Nat):(∀ (a:Int) (r:SS),qh0 n a=some r->qac Tryz.prog 37 [PV.int .i64 a] (qvc r)):=by
 induction n with
 | zero=>exact(by intros; rename_i h; cases h)
 | succ n ih=>
  have hg37:=ih;exact zay n (qh0 n) hg37
theorem qte (n:Nat):∀ (a:Int) (r:SS),qh0 n a=some r->qac Tryz.prog 37 [PV.int .i64 a] (qvc r):=(za3 n)
abbrev zi5 (r:SS):PV:=PV.str r
def qwj (n:Nat) (a:Int):Option SS:=
 bnd (idx ([48,49,50,51,52,53,54,55,56,57,97,98,99,100,101,102]:SS) (IntKind.u8.wrap (Int.tdiv a (16:Int)))) fun b=>
 bnd (idx ([48,49,50,51,52,53,54,55,56,57,97,98,99,100,101,102]:SS) (Int.tmod a (16:Int))) fun c=>
 some [b,c]
theorem q6a (n:Nat):∀ (a:Int) (r:SS),qwj n a=some r->qac Tryz.prog 103 [PV.int .u8 a] (zi5 r):=by
 intro a r h;unfold qwj at h;refine qac.of_vcN mixed (fun _ _=>Tryz.call103 _ _) Tryz.func103 (by kernel_rfl) (inl:=[1000000]) ?_;conv=>whnf
 refine⟨by unfold gI; decide,?_⟩;conv=>whnf
 refine bq h fun b e h=>?_;refine⟨_,qc8 e,?_⟩;conv=>whnf
 refine⟨by unfold gI; decide,?_⟩;conv=>whnf
 refine bq h fun c d h=>?_;refine⟨_,qc8 d,?_⟩;conv=>whnf
 refine⟨Codec.one qdm [b,c],qau [b,c],.inl rfl,?_⟩;conv=>whnf
 refine⟨_,rfl,?_⟩;obtain rfl:=sj h;conv=>whnf
 try exact fin
abbrev zei (r:SS):PV:=PV.str r
def qfj (n:Nat) (a:SS×Int->Option SS) (b:Int):SS×Int->Option SS:=fun(c,d)=>
 a (c,(IntKind.i64.wrap (b+d)))
def qe0 (n:Nat) (c:SS):(SS×Int->Option SS)->SS×Int->Option SS:=fun f (a,b)=>
 bif(decide (b<((c.length:Nat):Int)))then(
 bnd (qts n c b) fun e=>
 bnd (idx c b) fun d=>
 bif(bif(e==0)then true else(((d.toNat:Nat):Int)==127))then(
 chk (decide (((a.length+([92,120]:SS).length:Nat):Int)<=qhk)) (
 bnd (qwj n ((d.toNat:Nat):Int)) fun m=>
 chk (decide ((((a++([92,120]:SS)).length+m.length:Nat):Int)<=qhk)) (
 qfj n f b (((a++([92,120]:SS))++m),(1:Int)))))
 else(
 bif(bif(((d.toNat:Nat):Int)==39)then true else(((d.toNat:Nat):Int)==92))then(
 chk (decide (((a.length+([92]:SS).length:Nat):Int)<=qhk)) (
 bnd (qwb (IntKind.i64.wrap (b+1))) fun i=>
 bnd (qwb b) fun j=>
 chk (decide (j<=i/\i<=c.length)) (
 chk (decide ((((a++([92]:SS)).length+((c.take i).drop j).length:Nat):Int)<=qhk)) (
 qfj n f b (((a++([92]:SS))++((c.take i).drop j)),e)))))
 else(
 bif(((d.toNat:Nat):Int)==10)then(
 chk (decide (((a.length+([92,110]:SS).length:Nat):Int)<=qhk)) (
 qfj n f b ((a++([92,110]:SS)),e)))
 else(
 bif(((d.toNat:Nat):Int)==9)then(
 chk (decide (((a.length+([92,116]:SS).length:Nat):Int)<=qhk)) (
 qfj n f b ((a++([92,116]:SS)),e)))
 else(
 bif(((d.toNat:Nat):Int)==13)then(
 chk (decide (((a.length+([92,114]:SS).length:Nat):Int)<=qhk)) (
 qfj n f b ((a++([92,114]:SS)),e)))
 else(
 bif(decide (((d.toNat:Nat):Int)<32))then(
 chk (decide (((a.length+([92,120]:SS).length:Nat):Int)<=qhk)) (
 bnd (qwj n ((d.toNat:Nat):Int)) fun l=>
 chk (decide ((((a++([92,120]:SS)).length+l.length:Nat):Int)<=qhk)) (
 qfj n f b (((a++([92,120]:SS))++l),e))))
 else(
 bnd (qwb (IntKind.i64.wrap (b+e))) fun g=>
 bnd (qwb b) fun k=>
 chk (decide (k<=g/\g<=c.length)) (
 chk (decide (((a.length+((c.take g).drop k).length:Nat):Int)<=qhk)) (
 qfj n f b ((a++((c.take g).drop k)),e))))))))))
 else(
 chk (decide (((a.length+([39]:SS).length:Nat):Int)<=qhk)) (
 some (a++([39]:SS))))
def qt5 (n:Nat) (a:SS):Option SS:=
 qam (qe0 n a) n (([39]:SS),(0:Int))
set_option maxHeartbeats 4000000 in
theorem za7 (n:Nat):∀ (b r:SS),qt5 n b=some r->qac Tryz.prog 60 [PV.str b] (zei r):=by
 intro b r h;unfold qt5 at h;refine qac.of_vcN mixed (fun _ _=>Tryz.call60 _ _) Tryz.func60 (by kernel_rfl) (inl:=[1000000]) ?_;conv=>whnf
 refine qbi.fn [1000000] (S:=SS×Int) (fun(a,e)=>[(0,pS b),(3,pS a),(4,pI e)]) (fun(a,e)=>[]) (B:=qe0 n b) h (wk [] []) ?_;intro M st h;obtain⟨a,e⟩:=st;unfold qe0 at h;conv=>whnf
 apply ifc h<;>intro c h
 ·conv=>whnf
  refine bq h fun f E h=>?_;refine⟨_,(q3d n _ _ _ E),?_⟩;conv=>whnf
  refine bq h fun _ C h=>?_;refine⟨_,qc8 C,?_⟩;conv=>whnf
  refine qhe.cut (S:=SS×Int) (fun(k,l)=>[(0,pS b),(3,pS k),(4,pI e),(5,pI l)]) (fun(k,l)=>[]) (qfj n M e) (r:=r) ?_ ?_
  ·intro st h
   obtain⟨k,l⟩:=st;unfold qfj at h;conv=>whnf
   exact⟨(k,(IntKind.i64.wrap (e+l))),h,wk [] []⟩
  ·conv=>whnf
   refine⟨id,?_⟩;conv=>whnf
   refine⟨id,?_⟩;conv=>whnf
   apply ifc h<;>intro c h
   ·conv=>whnf
    obtain⟨G,h⟩:=qai h;refine⟨(of_decide_eq_true G:((a.length+([92,120]:SS).length:Nat):Int)<=qhk),?_⟩;conv=>whnf
    refine bq h fun q D h=>?_;refine⟨_,(q6a n _ _ D),?_⟩;conv=>whnf
    obtain⟨s,h⟩:=qai h;refine⟨(of_decide_eq_true s:(((a++([92,120]:SS)).length+q.length:Nat):Int)<=qhk),?_⟩;conv=>whnf
    exact⟨(((a++([92,120]:SS))++q),(1:Int)),h,wk [] []⟩
   ·conv=>whnf
    refine⟨id,id,?_⟩;conv=>whnf
    apply ifc h<;>intro c h
    ·conv=>whnf
     obtain⟨K,h⟩:=qai h;refine⟨(of_decide_eq_true K:((a.length+([92]:SS).length:Nat):Int)<=qhk),?_⟩;conv=>whnf
     refine bq h fun g J h=>?_;refine⟨_,qct J,?_⟩;conv=>whnf
     refine bq h fun i I h=>?_;refine⟨_,qct I,?_⟩;conv=>whnf
     obtain⟨o,h⟩:=qai h;refine⟨⟨(of_decide_eq_true o:(i<=g/\g<=b.length)).1,(of_decide_eq_true o:(i<=g/\g<=b.length)).2⟩,?_⟩;conv=>whnf
     obtain⟨H,h⟩:=qai h;refine⟨(of_decide_eq_true H:(((a++([92]:SS)).length+((b.take g).drop i).length:Nat):Int)<=qhk),?_⟩;conv=>whnf
     exact⟨(((a++([92]:SS))++((b.take g).drop i)),f),h,wk [] []⟩
    ·conv=>whnf
     apply ifc h<;>intro c h
     ·conv=>whnf
      obtain⟨L,h⟩:=qai h;refine⟨(of_decide_eq_true L:((a.length+([92,110]:SS).length:Nat):Int)<=qhk),?_⟩;conv=>whnf
      exact⟨((a++([92,110]:SS)),f),h,wk [] []⟩
     ·conv=>whnf
      apply ifc h<;>intro c h
      ·conv=>whnf
       obtain⟨t,h⟩:=qai h;refine⟨(of_decide_eq_true t:((a.length+([92,116]:SS).length:Nat):Int)<=qhk),?_⟩;conv=>whnf
       exact⟨((a++([92,116]:SS)),f),h,wk [] []⟩
      ·conv=>whnf
       apply ifc h<;>intro c h
       ·conv=>whnf
        obtain⟨u,h⟩:=qai h;refine⟨(of_decide_eq_true u:((a.length+([92,114]:SS).length:Nat):Int)<=qhk),?_⟩;conv=>whnf
        exact⟨((a++([92,114]:SS)),f),h,wk [] []⟩
       ·conv=>whnf
        apply ifc h<;>intro c h
        ·conv=>whnf
         obtain⟨x,h⟩:=qai h;refine⟨(of_decide_eq_true x:((a.length+([92,120]:SS).length:Nat):Int)<=qhk),?_⟩;conv=>whnf
         refine bq h fun p w h=>?_;refine⟨_,(q6a n _ _ w),?_⟩;conv=>whnf
         obtain⟨v,h⟩:=qai h;refine⟨(of_decide_eq_true v:(((a++([92,120]:SS)).length+p.length:Nat):Int)<=qhk),?_⟩;conv=>whnf
         exact⟨(((a++([92,120]:SS))++p),f),h,wk [] []⟩
        ·conv=>whnf
         refine bq h fun d A h=>?_;refine⟨_,qct A,?_⟩;conv=>whnf
         refine bq h fun j z h=>?_;refine⟨_,qct z,?_⟩;conv=>whnf
         obtain⟨m,h⟩:=qai h;refine⟨⟨(of_decide_eq_true m:(j<=d/\d<=b.length)).1,(of_decide_eq_true m:(j<=d/\d<=b.length)).2⟩,?_⟩;conv=>whnf
         obtain⟨y,h⟩:=qai h;refine⟨(of_decide_eq_true y:((a.length+((b.take d).drop j).length:Nat):Int)<=qhk),?_⟩;conv=>whnf
         exact⟨((a++((b.take d).drop j)),f),h,wk [] []⟩
 ·conv=>whnf
  obtain⟨F,h⟩:=qai h;refine⟨(of_decide_eq_true F:((a.length+([39]:SS).length:Nat):Int)<=qhk),?_⟩;obtain rfl:=sj h;conv=>whnf
  try exact fin
abbrev zi6 (r:SS):PV:=PV.str r
def qwk (n:Nat) (a:SS):Option SS:=
 bnd (qgb n a) fun b=>
 bif b then(
 some a)
 else(
 bnd (qt5 n a) fun c=>
 some c)
theorem q6b (n:Nat):∀ (a r:SS),qwk n a=some r->qac Tryz.prog 38 [PV.str a] (zi6 r):=by
 intro a r h;unfold qwk at h;refine qac.of_vcN mixed (fun _ _=>Tryz.call38 _ _) Tryz.func38 (by kernel_rfl) (inl:=[1000000]) ?_;conv=>whnf
 refine bq h fun _ c h=>?_;refine⟨_,(qgj n _ _ c),?_⟩;conv=>whnf
 apply ifc h<;>intro _ h
 ·obtain rfl:=sj h
  conv=>whnf
  try exact fin
 ·conv=>whnf
  refine bq h fun _ b h=>?_;refine⟨_,(za7 n _ _ b),?_⟩;obtain rfl:=sj h;conv=>whnf
  try exact fin
abbrev zgu (r:SS):PV:=PV.str r
def qla (n:Nat) (g:List qao) (f:Int) (j:SS×Int->Option SS):(SS×Int->Option SS)->SS×Int->Option SS:=fun k (a,e)=>
 bnd (idx g f) fun⟨_,_,_,l⟩=>
 bif(decide (e<((qda.rows l).length:Int)))then(
 bnd (idx g f) fun⟨_,_,_,m⟩=>
 bnd (idx m e) fun⟨o,p,q,s⟩=>
 chk (decide (((a.length+([59,32,115,101,101,107,32]:SS).length:Nat):Int)<=qhk)) (
 bnd (qh0 n o) fun b=>
 chk (decide ((((a++([59,32,115,101,101,107,32]:SS)).length+b.length:Nat):Int)<=qhk)) (
 chk (decide (((((a++([59,32,115,101,101,107,32]:SS))++b).length+([32]:SS).length:Nat):Int)<=qhk)) (
 bnd (qh0 n p) fun c=>
 chk (decide ((((((a++([59,32,115,101,101,107,32]:SS))++b)++([32]:SS)).length+c.length:Nat):Int)<=qhk)) (
 chk (decide (((((((a++([59,32,115,101,101,107,32]:SS))++b)++([32]:SS))++c).length+([32]:SS).length:Nat):Int)<=qhk)) (
 bnd (qwk n q) fun d=>
 chk (decide ((((((((a++([59,32,115,101,101,107,32]:SS))++b)++([32]:SS))++c)++([32]:SS)).length+d.length:Nat):Int)<=qhk)) (
 chk (decide (((((((((a++([59,32,115,101,101,107,32]:SS))++b)++([32]:SS))++c)++([32]:SS))++d).length+([46]:SS).length:Nat):Int)<=qhk)) (
 bnd (qwk n s) fun i=>
 chk (decide ((((((((((a++([59,32,115,101,101,107,32]:SS))++b)++([32]:SS))++c)++([32]:SS))++d)++([46]:SS)).length+i.length:Nat):Int)<=qhk)) (
 k (((((((((a++([59,32,115,101,101,107,32]:SS))++b)++([32]:SS))++c)++([32]:SS))++d)++([46]:SS))++i),(IntKind.i64.wrap (e+1))))))))))))
 else(
 chk (decide (((a.length+([10]:SS).length:Nat):Int)<=qhk)) (
 j ((a++([10]:SS)),(IntKind.i64.wrap (f+1)))))
def qqw (n:Nat) (b:List qao) (d:Int) (a:SS×Int->Option SS):SS->Option SS:=fun c=>
 qam (qla n b d a) n (c,(0:Int))
def qn0 (n:Nat) (a:SS) (c:List qao) (d:Int) (f:SS×Int->Option SS):SS->Option SS:=fun b=>
 chk (decide (((a.length+b.length:Nat):Int)<=qhk)) (
 chk (decide ((((a++b).length+([32]:SS).length:Nat):Int)<=qhk)) (
 bnd (idx c d) fun⟨_,l,_,_⟩=>
 bnd (qh0 n l) fun e=>
 chk (decide (((((a++b)++([32]:SS)).length+e.length:Nat):Int)<=qhk)) (
 bnd (idx c d) fun⟨_,_,i,_⟩=>
 bnd (idx c d) fun⟨_,j,_,_⟩=>
 bif(i != j)then(
 chk (decide ((((((a++b)++([32]:SS))++e).length+([32,116,111,32]:SS).length:Nat):Int)<=qhk)) (
 bnd (idx c d) fun⟨_,_,k,_⟩=>
 bnd (qh0 n k) fun g=>
 chk (decide (((((((a++b)++([32]:SS))++e)++([32,116,111,32]:SS)).length+g.length:Nat):Int)<=qhk)) (
 qqw n c d f (((((a++b)++([32]:SS))++e)++([32,116,111,32]:SS))++g))))
 else(
 qqw n c d f (((a++b)++([32]:SS))++e)))))
def qnz (n:Nat) (a:List qao) (b:Int) (d:SS) (c:SS×Int->Option SS):SS->Option SS:=fun e=>
 bnd (idx a b) fun⟨f,_,_,_⟩=>
 bif(f==2)then(
 qn0 n d a b c ([119,104,111,108,101]:SS))
 else(
 qn0 n d a b c e)
def qn1 (n:Nat) (a:List qao):(SS×Int->Option SS)->SS×Int->Option SS:=fun d (c,b)=>
 bif(decide (b<((qao.rows a).length:Int)))then(
 bnd (idx a b) fun⟨e,_,_,_⟩=>
 bif(e==1)then(
 qnz n a b c d ([102,108,111,119]:SS))
 else(
 qnz n a b c d ([119,114,105,116,101]:SS)))
 else(
 some c)
def qtw (n:Nat) (a:List qao):Option SS:=
 qam (qn1 n a) n (([]:SS),(0:Int))
set_option maxHeartbeats 4000000 in
theorem q3j (n:Nat):∀ (c:List qao) (r:SS),qtw n c=some r->qac Tryz.prog 14 [PV.sl (qao.rows c)] (zgu r):=by
 intro c r h;unfold qtw at h;refine qac.of_vcN mixed (fun _ _=>Tryz.call14 _ _) Tryz.func14 (by kernel_rfl) (inl:=[1000000]) ?_;conv=>whnf
 refine qbi.fn [1000000] (S:=SS×Int) (fun(b,d)=>[(0,pY c),(3,pS b),(4,pI d)]) (fun(b,d)=>[]) (B:=qn1 n c) h (wk [] []) ?_;intro k st h;obtain⟨b,d⟩:=st;unfold qn1 at h;conv=>whnf
 apply ifc h<;>intro j h
 ·conv=>whnf
  refine qhe.cut (S:=SS) (fun o=>[(0,pY c),(3,pS b),(4,pI d),(5,pS o)]) (fun o=>[]) (qnz n c d b k) (r:=r) ?_ ?_
  ·intro o h
   unfold qnz at h;conv=>whnf
   refine qhe.cut (S:=SS) (fun e=>[(0,pY c),(3,pS b),(4,pI d),(5,pS e)]) (fun e=>[]) (qn0 n b c d k) (r:=r) ?_ ?_
   ·intro e h
    unfold qn0 at h;conv=>whnf
    obtain⟨N,h⟩:=qai h;refine⟨(of_decide_eq_true N:((b.length+e.length:Nat):Int)<=qhk),?_⟩;conv=>whnf
    obtain⟨M,h⟩:=qai h;refine⟨(of_decide_eq_true M:(((b++e).length+([32]:SS).length:Nat):Int)<=qhk),?_⟩;conv=>whnf
    refine bq h fun s0 L h=>?_;obtain⟨_,_,_,_⟩:=s0;refine⟨_,Codec.at_ qbf L,?_⟩;conv=>whnf
    refine bq h fun i K h=>?_;refine⟨_,(qte n _ _ K),?_⟩;conv=>whnf
    obtain⟨J,h⟩:=qai h;refine⟨(of_decide_eq_true J:((((b++e)++([32]:SS)).length+i.length:Nat):Int)<=qhk),?_⟩;conv=>whnf
    refine qhe.cut (S:=SS) (fun p=>[(0,pY c),(3,pS p),(4,pI d)]) (fun p=>[]) (qqw n c d k) (r:=r) ?_ ?_
    ·intro p h
     unfold qqw at h;conv=>whnf
     refine qbi.fn [1000000] (S:=SS×Int) (fun(a,l)=>[(0,pY c),(3,pS a),(4,pI d),(6,pI l)]) (fun(a,l)=>[]) (B:=qla n c d k) h (wk [] []) ?_;intro _ st h;obtain⟨a,l⟩:=st;unfold qla at h;conv=>whnf
     refine bq h fun s0 A h=>?_;obtain⟨_,_,_,_⟩:=s0;refine⟨_,Codec.at_ qbf A,?_⟩;conv=>whnf
     apply ifc h<;>intro j h
     ·conv=>whnf
      refine bq h fun s0 y h=>?_;obtain⟨_,_,_,_⟩:=s0;refine⟨_,Codec.at_ qbf y,?_⟩;conv=>whnf
      refine bq h fun s0 x h=>?_;obtain⟨_,_,_,_⟩:=s0;refine⟨_,Codec.at_ qyx x,?_⟩;conv=>whnf
      obtain⟨w,h⟩:=qai h;refine⟨(of_decide_eq_true w:((a.length+([59,32,115,101,101,107,32]:SS).length:Nat):Int)<=qhk),?_⟩;conv=>whnf
      refine bq h fun f v h=>?_;refine⟨_,(qte n _ _ v),?_⟩;conv=>whnf
      obtain⟨u,h⟩:=qai h;refine⟨(of_decide_eq_true u:(((a++([59,32,115,101,101,107,32]:SS)).length+f.length:Nat):Int)<=qhk),?_⟩;conv=>whnf
      obtain⟨X,h⟩:=qai h;refine⟨(of_decide_eq_true X:((((a++([59,32,115,101,101,107,32]:SS))++f).length+([32]:SS).length:Nat):Int)<=qhk),?_⟩;conv=>whnf
      refine bq h fun g W h=>?_;refine⟨_,(qte n _ _ W),?_⟩;conv=>whnf
      obtain⟨V,h⟩:=qai h;refine⟨(of_decide_eq_true V:(((((a++([59,32,115,101,101,107,32]:SS))++f)++([32]:SS)).length+g.length:Nat):Int)<=qhk),?_⟩;conv=>whnf
      obtain⟨U,h⟩:=qai h;refine⟨(of_decide_eq_true U:((((((a++([59,32,115,101,101,107,32]:SS))++f)++([32]:SS))++g).length+([32]:SS).length:Nat):Int)<=qhk),?_⟩;conv=>whnf
      refine bq h fun m T h=>?_;refine⟨_,(q6b n _ _ T),?_⟩;conv=>whnf
      obtain⟨R,h⟩:=qai h;refine⟨(of_decide_eq_true R:(((((((a++([59,32,115,101,101,107,32]:SS))++f)++([32]:SS))++g)++([32]:SS)).length+m.length:Nat):Int)<=qhk),?_⟩;conv=>whnf
      obtain⟨Q,h⟩:=qai h;refine⟨(of_decide_eq_true Q:((((((((a++([59,32,115,101,101,107,32]:SS))++f)++([32]:SS))++g)++([32]:SS))++m).length+([46]:SS).length:Nat):Int)<=qhk),?_⟩;conv=>whnf
      refine bq h fun q F h=>?_;refine⟨_,(q6b n _ _ F),?_⟩;conv=>whnf
      obtain⟨t,h⟩:=qai h;refine⟨(of_decide_eq_true t:(((((((((a++([59,32,115,101,101,107,32]:SS))++f)++([32]:SS))++g)++([32]:SS))++m)++([46]:SS)).length+q.length:Nat):Int)<=qhk),?_⟩;conv=>whnf
      exact⟨(((((((((a++([59,32,115,101,101,107,32]:SS))++f)++([32]:SS))++g)++([32]:SS))++m)++([46]:SS))++q),(IntKind.i64.wrap (l+1))),h,wk [] []⟩
     ·conv=>whnf
      obtain⟨z,h⟩:=qai h;refine⟨(of_decide_eq_true z:((a.length+([10]:SS).length:Nat):Int)<=qhk),?_⟩;conv=>whnf
      exact⟨((a++([10]:SS)),(IntKind.i64.wrap (d+1))),h,wk [] []⟩
    ·conv=>whnf
     refine bq h fun s0 I h=>?_;obtain⟨_,_,_,_⟩:=s0;refine⟨_,Codec.at_ qbf I,?_⟩;conv=>whnf
     refine bq h fun s0 H h=>?_;obtain⟨_,_,_,_⟩:=s0;refine⟨_,Codec.at_ qbf H,?_⟩;conv=>whnf
     apply ifc h<;>intro j h
     ·conv=>whnf
      obtain⟨G,h⟩:=qai h;refine⟨(of_decide_eq_true G:(((((b++e)++([32]:SS))++i).length+([32,116,111,32]:SS).length:Nat):Int)<=qhk),?_⟩;conv=>whnf
      refine bq h fun s0 E h=>?_;obtain⟨_,_,_,_⟩:=s0;refine⟨_,Codec.at_ qbf E,?_⟩;conv=>whnf
      refine bq h fun s D h=>?_;refine⟨_,(qte n _ _ D),?_⟩;conv=>whnf
      obtain⟨C,h⟩:=qai h;refine⟨(of_decide_eq_true C:((((((b++e)++([32]:SS))++i)++([32,116,111,32]:SS)).length+s.length:Nat):Int)<=qhk),?_⟩;conv=>whnf
      exact⟨(((((b++e)++([32]:SS))++i)++([32,116,111,32]:SS))++s),h,wk [] []⟩
     ·conv=>whnf
      exact⟨(((b++e)++([32]:SS))++i),h,wk [] []⟩
   ·conv=>whnf
    refine bq h fun s0 O h=>?_;obtain⟨_,_,_,_⟩:=s0;refine⟨_,Codec.at_ qbf O,?_⟩;conv=>whnf
    apply ifc h<;>intro j h
    ·conv=>whnf
     exact⟨([119,104,111,108,101]:SS),h,wk [] []⟩
    ·conv=>whnf
     exact⟨o,h,wk [] []⟩
  ·conv=>whnf
   refine bq h fun s0 P h=>?_;obtain⟨_,_,_,_⟩:=s0;refine⟨_,Codec.at_ qbf P,?_⟩;conv=>whnf
   apply ifc h<;>intro j h
   ·conv=>whnf
    exact⟨([102,108,111,119]:SS),h,wk [] []⟩
   ·conv=>whnf
    exact⟨([119,114,105,116,101]:SS),h,wk [] []⟩
 ·obtain rfl:=sj h
  conv=>whnf
  try exact fin
abbrev zey (r:Int):PV:=PV.int .i64 r
def qo0 (n:Nat) (a:Int×Int->Option (Int)) (b:Int):Int->Option (Int):=fun c=>
 a (c,(IntKind.i64.wrap (b+1)))
def ql5 (n:Nat) (d:SS):(Int×Int->Option (Int))->Int×Int->Option (Int):=fun c (b,a)=>
 bif(decide (a<((d.length:Nat):Int)))then(
 bnd (idx d a) fun e=>
 bif(((e.toNat:Nat):Int)==10)then(
 qo0 n c a (IntKind.i64.wrap (b+1)))
 else(
 qo0 n c a b))
 else(
 some b)
def qul (n:Nat) (a:SS):Option (Int):=
 qam (ql5 n a) n ((0:Int),(0:Int))
theorem zbi (n:Nat):∀ (a:SS) (r:Int),qul n a=some r->qac Tryz.prog 15 [PV.str a] (zey r):=by
 intro a r h;unfold qul at h;refine qac.of_vcN mixed (fun _ _=>Tryz.call15 _ _) Tryz.func15 (by kernel_rfl) (inl:=[1000000]) ?_;conv=>whnf
 refine qbi.fn [1000000] (S:=Int×Int) (fun(c,b)=>[(0,pS a),(3,pI c),(4,pI b)]) (fun(c,b)=>[]) (B:=ql5 n a) h (wk [] []) ?_;intro g st h;obtain⟨c,b⟩:=st;unfold ql5 at h;conv=>whnf
 apply ifc h<;>intro f h
 ·conv=>whnf
  refine qhe.cut (S:=Int) (fun d=>[(0,pS a),(3,pI d),(4,pI b)]) (fun d=>[]) (qo0 n g b) (r:=r) ?_ ?_
  ·intro d h
   unfold qo0 at h;conv=>whnf
   exact⟨(d,(IntKind.i64.wrap (b+1))),h,wk [] []⟩
  ·conv=>whnf
   refine bq h fun _ e h=>?_;refine⟨_,qc8 e,?_⟩;conv=>whnf
   apply ifc h<;>intro f h
   ·conv=>whnf
    exact⟨(IntKind.i64.wrap (c+1)),h,wk [] []⟩
   ·conv=>whnf
    exact⟨c,h,wk [] []⟩
 ·obtain rfl:=sj h
  conv=>whnf
  try exact fin
abbrev q5c (r:Bool):PV:=PV.bool r
def qql (n:Nat) (a:List qao):Option (Bool):=
 bnd (qpw n a) fun b=>
 bnd (qtw n a) fun d=>
 bif(!(b==d))then(
 some false)
 else(
 bnd (qul n b) fun c=>
 bnd (qaw (c==((qao.rows a).length:Int)) (qet n)) fun e=>
 some (bif(c==((qao.rows a).length:Int))then e else false))
theorem q3c (n:Nat):∀ (a:List qao) (r:Bool),qql n a=some r->qac Tryz.prog 4 [PV.sl (qao.rows a)] (q5c r):=by
 intro a r h;unfold qql at h;refine qac.of_vcN mixed (fun _ _=>Tryz.call4 _ _) Tryz.func4 (by kernel_rfl) (inl:=[1000000]) ?_;conv=>whnf
 refine bq h fun _ e h=>?_;refine⟨_,(qv1 n _ _ e),?_⟩;conv=>whnf
 refine bq h fun _ d h=>?_;refine⟨_,(q3j n _ _ d),?_⟩;conv=>whnf
 apply ifc h<;>intro _ h
 ·obtain rfl:=sj h
  conv=>whnf
  try exact fin
 ·conv=>whnf
  refine bq h fun _ c h=>?_;refine⟨_,(zbi n _ _ c),?_⟩;conv=>whnf
  refine bq h fun _ b h=>?_;refine⟨_,fun f=>(qel n _ (qad b f)),?_⟩;conv=>whnf
  refine⟨id,?_⟩;obtain rfl:=sj h;conv=>whnf
  try exact fin
end W
end
