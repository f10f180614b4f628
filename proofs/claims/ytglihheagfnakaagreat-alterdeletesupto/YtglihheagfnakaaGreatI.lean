/- A part of the proof: contracts, printed by program. -/
import Derived.Test.YtglihheagfnakaaGreatC
import Derived.Test.YtglihheagfnakaaGreatD
import Derived.Test.YtglihheagfnakaaGreatG
import Derived.Test.YtglihheagfnakaaGreatH
set_option linter.unusedVariables false
set_option linter.unusedSimpArgs false
set_option linter.unnecessarySimpa false
set_option linter.deprecated false
set_option linter.unusedSectionVars false
set_option linter.constructorNameAsVariable false
open Go.IntKind renaming wrap->kwr,bits->kbt
open BitVec renaming ofInt->jr
section
set_option maxRecDepth 100000
set_option maxHeartbeats 20000000
open Go Go.Proofs Ax
namespace W
abbrev Bc (r:SS):PV:=PV.str r
def dy (n:Nat) (b:SS) (a:Nat) (c:SS) (d:SS×Nat->Option SS):Bool->Option SS:=fun m=>
 bif m then(
 bnd (u8I (kwr .u8 (((jr (kbt .u8) (224:Int) ||| jr (kbt .u8) (kwr .u8 (Int.fdiv ((qN b a:Nat):Int) (2 ^ (min (Int.toNat (12:Int)) (kbt .i32)))))).toNat:Nat):Int))) fun k=>
 bnd (u8I (kwr .u8 (((jr (kbt .u8) (128:Int) ||| jr (kbt .u8) (kwr .u8 (((jr (kbt .u8) (kwr .u8 (Int.fdiv ((qN b a:Nat):Int) (2 ^ (min (Int.toNat (6:Int)) (kbt .i32))))) &&& jr (kbt .u8) (63:Int)).toNat:Nat):Int))).toNat:Nat):Int))) fun l=>
 bnd (u8I (kwr .u8 (((jr (kbt .u8) (128:Int) ||| jr (kbt .u8) (kwr .u8 (((jr (kbt .u8) (kwr .u8 ((qN b a:Nat):Int)) &&& jr (kbt .u8) (63:Int)).toNat:Nat):Int))).toNat:Nat):Int))) fun e=>
 chk (decide ((qp ((c++[(92:UInt8)])++[k,l,e])).length * 1<=140737488355328)) (
 d (((c++[(92:UInt8)])++[k,l,e]),(bif(decide (a<b.length))then xe b a else a))))
 else(
 bif(bif(decide ((kwr .u32 ((qN b a:Nat):Int))>65535))then(decide ((kwr .u32 ((qN b a:Nat):Int))<=1114111))else false)then(
 bnd (u8I (kwr .u8 (((jr (kbt .u8) (240:Int) ||| jr (kbt .u8) (kwr .u8 (Int.fdiv ((qN b a:Nat):Int) (2 ^ (min (Int.toNat (18:Int)) (kbt .i32)))))).toNat:Nat):Int))) fun f=>
 bnd (u8I (kwr .u8 (((jr (kbt .u8) (128:Int) ||| jr (kbt .u8) (kwr .u8 (((jr (kbt .u8) (kwr .u8 (Int.fdiv ((qN b a:Nat):Int) (2 ^ (min (Int.toNat (12:Int)) (kbt .i32))))) &&& jr (kbt .u8) (63:Int)).toNat:Nat):Int))).toNat:Nat):Int))) fun g=>
 bnd (u8I (kwr .u8 (((jr (kbt .u8) (128:Int) ||| jr (kbt .u8) (kwr .u8 (((jr (kbt .u8) (kwr .u8 (Int.fdiv ((qN b a:Nat):Int) (2 ^ (min (Int.toNat (6:Int)) (kbt .i32))))) &&& jr (kbt .u8) (63:Int)).toNat:Nat):Int))).toNat:Nat):Int))) fun i=>
 bnd (u8I (kwr .u8 (((jr (kbt .u8) (128:Int) ||| jr (kbt .u8) (kwr .u8 (((jr (kbt .u8) (kwr .u8 ((qN b a:Nat):Int)) &&& jr (kbt .u8) (63:Int)).toNat:Nat):Int))).toNat:Nat):Int))) fun j=>
 chk (decide ((qp ((c++[(92:UInt8)])++[f,g,i,j])).length * 1<=140737488355328)) (
 d (((c++[(92:UInt8)])++[f,g,i,j]),(bif(decide (a<b.length))then xe b a else a))))
 else(
 chk (decide ((qp ((c++[(92:UInt8)])++[(239:UInt8),(191:UInt8),(189:UInt8)])).length * 1<=140737488355328)) (
 d (((c++[(92:UInt8)])++[(239:UInt8),(191:UInt8),(189:UInt8)]),(bif(decide (a<b.length))then xe b a else a)))))
def dz (n:Nat) (b:SS) (a:Nat) (c:SS) (d:SS×Nat->Option SS):Bool->Option SS:=fun m=>
 bif m then(
 bnd (u8I (kwr .u8 (((jr (kbt .u8) (224:Int) ||| jr (kbt .u8) (kwr .u8 (Int.fdiv ((qN b a:Nat):Int) (2 ^ (min (Int.toNat (12:Int)) (kbt .i32)))))).toNat:Nat):Int))) fun e=>
 bnd (u8I (kwr .u8 (((jr (kbt .u8) (128:Int) ||| jr (kbt .u8) (kwr .u8 (((jr (kbt .u8) (kwr .u8 (Int.fdiv ((qN b a:Nat):Int) (2 ^ (min (Int.toNat (6:Int)) (kbt .i32))))) &&& jr (kbt .u8) (63:Int)).toNat:Nat):Int))).toNat:Nat):Int))) fun f=>
 bnd (u8I (kwr .u8 (((jr (kbt .u8) (128:Int) ||| jr (kbt .u8) (kwr .u8 (((jr (kbt .u8) (kwr .u8 ((qN b a:Nat):Int)) &&& jr (kbt .u8) (63:Int)).toNat:Nat):Int))).toNat:Nat):Int))) fun g=>
 chk (decide ((qp (c++[e,f,g])).length * 1<=140737488355328)) (
 d ((c++[e,f,g]),(bif(decide (a<b.length))then xe b a else a))))
 else(
 bif(bif(decide ((kwr .u32 ((qN b a:Nat):Int))>65535))then(decide ((kwr .u32 ((qN b a:Nat):Int))<=1114111))else false)then(
 bnd (u8I (kwr .u8 (((jr (kbt .u8) (240:Int) ||| jr (kbt .u8) (kwr .u8 (Int.fdiv ((qN b a:Nat):Int) (2 ^ (min (Int.toNat (18:Int)) (kbt .i32)))))).toNat:Nat):Int))) fun i=>
 bnd (u8I (kwr .u8 (((jr (kbt .u8) (128:Int) ||| jr (kbt .u8) (kwr .u8 (((jr (kbt .u8) (kwr .u8 (Int.fdiv ((qN b a:Nat):Int) (2 ^ (min (Int.toNat (12:Int)) (kbt .i32))))) &&& jr (kbt .u8) (63:Int)).toNat:Nat):Int))).toNat:Nat):Int))) fun j=>
 bnd (u8I (kwr .u8 (((jr (kbt .u8) (128:Int) ||| jr (kbt .u8) (kwr .u8 (((jr (kbt .u8) (kwr .u8 (Int.fdiv ((qN b a:Nat):Int) (2 ^ (min (Int.toNat (6:Int)) (kbt .i32))))) &&& jr (kbt .u8) (63:Int)).toNat:Nat):Int))).toNat:Nat):Int))) fun k=>
 bnd (u8I (kwr .u8 (((jr (kbt .u8) (128:Int) ||| jr (kbt .u8) (kwr .u8 (((jr (kbt .u8) (kwr .u8 ((qN b a:Nat):Int)) &&& jr (kbt .u8) (63:Int)).toNat:Nat):Int))).toNat:Nat):Int))) fun l=>
 chk (decide ((qp (c++[i,j,k,l])).length * 1<=140737488355328)) (
 d ((c++[i,j,k,l]),(bif(decide (a<b.length))then xe b a else a))))
 else(
 chk (decide ((qp (c++[(239:UInt8),(191:UInt8),(189:UInt8)])).length * 1<=140737488355328)) (
 d ((c++[(239:UInt8),(191:UInt8),(189:UInt8)]),(bif(decide (a<b.length))then xe b a else a)))))
def nI (n:Nat) (b:SS):(SS×Nat->Option SS)->SS×Nat->Option SS:=fun d (c,a)=>
 bif(decide (a<b.length))then(
 bif(bif(((qN b a:Nat):Int)==92)then true else(((qN b a:Nat):Int)==39))then(
 chk (decide ((qp (c++[(92:UInt8)])).length * 1<=140737488355328)) (
 bif(decide ((kwr .u32 ((qN b a:Nat):Int))<=127))then(
 bnd (u8I (kwr .u8 ((qN b a:Nat):Int))) fun m=>
 chk (decide ((qp ((c++[(92:UInt8)])++[m])).length * 1<=140737488355328)) (
 d (((c++[(92:UInt8)])++[m]),(bif(decide (a<b.length))then xe b a else a))))
 else(
 bif(decide ((kwr .u32 ((qN b a:Nat):Int))<=2047))then(
 bnd (u8I (kwr .u8 (((jr (kbt .u8) (192:Int) ||| jr (kbt .u8) (kwr .u8 (Int.fdiv ((qN b a:Nat):Int) (2 ^ (min (Int.toNat (6:Int)) (kbt .i32)))))).toNat:Nat):Int))) fun o=>
 bnd (u8I (kwr .u8 (((jr (kbt .u8) (128:Int) ||| jr (kbt .u8) (kwr .u8 (((jr (kbt .u8) (kwr .u8 ((qN b a:Nat):Int)) &&& jr (kbt .u8) (63:Int)).toNat:Nat):Int))).toNat:Nat):Int))) fun p=>
 chk (decide ((qp ((c++[(92:UInt8)])++[o,p])).length * 1<=140737488355328)) (
 d (((c++[(92:UInt8)])++[o,p]),(bif(decide (a<b.length))then xe b a else a))))
 else(
 bif(decide ((kwr .u32 ((qN b a:Nat):Int))<55296))then(
 dy n b a c d (decide ((kwr .u32 ((qN b a:Nat):Int))<55296)))
 else(
 dy n b a c d (bif(decide ((57343:Int)<(kwr .u32 ((qN b a:Nat):Int))))then(decide ((kwr .u32 ((qN b a:Nat):Int))<=65535))else false))))))
 else(
 bif(((qN b a:Nat):Int)==10)then(
 chk (decide ((qp (c++([92,110]:SS))).length * 1<=140737488355328)) (
 d ((c++([92,110]:SS)),(bif(decide (a<b.length))then xe b a else a))))
 else(
 bif(((qN b a:Nat):Int)==9)then(
 chk (decide ((qp (c++([92,116]:SS))).length * 1<=140737488355328)) (
 d ((c++([92,116]:SS)),(bif(decide (a<b.length))then xe b a else a))))
 else(
 bif(((qN b a:Nat):Int)==13)then(
 chk (decide ((qp (c++([92,114]:SS))).length * 1<=140737488355328)) (
 d ((c++([92,114]:SS)),(bif(decide (a<b.length))then xe b a else a))))
 else(
 bnd (qE ((!(bif(decide (((qN b a:Nat):Int)<32))then true else(((qN b a:Nat):Int)==127)))&&(((qN b a:Nat):Int)==65533)) (rZ ((a:Nat):Int))) fun f=>
 chk (bif((!(bif(decide (((qN b a:Nat):Int)<32))then true else(((qN b a:Nat):Int)==127)))&&(((qN b a:Nat):Int)==65533))then decide (f<=b.length)else true) (
 bnd (qE ((!(bif(decide (((qN b a:Nat):Int)<32))then true else(((qN b a:Nat):Int)==127)))&&(((qN b a:Nat):Int)==65533)) (cF n (b.drop f) ([239,191,189]:SS))) fun q=>
 bif(bif(bif(decide (((qN b a:Nat):Int)<32))then true else(((qN b a:Nat):Int)==127))then true else(bif(((qN b a:Nat):Int)==65533)then(!q)else false))then(
 bnd (idx b ((a:Nat):Int)) fun g=>
 chk (decide ((qp (c++([92,120]:SS))).length * 1<=140737488355328)) (
 bnd (idx ([48,49,50,51,52,53,54,55,56,57,97,98,99,100,101,102]:SS) (Int.fdiv ((g.toNat:Nat):Int) (2 ^ (min (Int.toNat (4:Int)) (kbt .u8))))) fun e=>
 chk (decide ((qp ((c++([92,120]:SS))++[e])).length * 1<=140737488355328)) (
 bnd (idx ([48,49,50,51,52,53,54,55,56,57,97,98,99,100,101,102]:SS) (kwr .u8 (((jr (kbt .u8) ((g.toNat:Nat):Int) &&& jr (kbt .u8) (15:Int)).toNat:Nat):Int))) fun i=>
 chk (decide ((qp (((c++([92,120]:SS))++[e])++[i])).length * 1<=140737488355328)) (
 d ((((c++([92,120]:SS))++[e])++[i]),(bif(decide (a<b.length))then xe b a else a))))))
 else(
 bif(decide ((kwr .u32 ((qN b a:Nat):Int))<=127))then(
 bnd (u8I (kwr .u8 ((qN b a:Nat):Int))) fun j=>
 chk (decide ((qp (c++[j])).length * 1<=140737488355328)) (
 d ((c++[j]),(bif(decide (a<b.length))then xe b a else a))))
 else(
 bif(decide ((kwr .u32 ((qN b a:Nat):Int))<=2047))then(
 bnd (u8I (kwr .u8 (((jr (kbt .u8) (192:Int) ||| jr (kbt .u8) (kwr .u8 (Int.fdiv ((qN b a:Nat):Int) (2 ^ (min (Int.toNat (6:Int)) (kbt .i32)))))).toNat:Nat):Int))) fun k=>
 bnd (u8I (kwr .u8 (((jr (kbt .u8) (128:Int) ||| jr (kbt .u8) (kwr .u8 (((jr (kbt .u8) (kwr .u8 ((qN b a:Nat):Int)) &&& jr (kbt .u8) (63:Int)).toNat:Nat):Int))).toNat:Nat):Int))) fun l=>
 chk (decide ((qp (c++[k,l])).length * 1<=140737488355328)) (
 d ((c++[k,l]),(bif(decide (a<b.length))then xe b a else a))))
 else(
 bif(decide ((kwr .u32 ((qN b a:Nat):Int))<55296))then(
 dz n b a c d (decide ((kwr .u32 ((qN b a:Nat):Int))<55296)))
 else(
 dz n b a c d (bif(decide ((57343:Int)<(kwr .u32 ((qN b a:Nat):Int))))then(decide ((kwr .u32 ((qN b a:Nat):Int))<=65535))else false)))))))))))
 else(
 chk (decide ((qp (c++[(39:UInt8)])).length * 1<=140737488355328)) (
 some (c++[(39:UInt8)])))
def pz (n:Nat) (a:SS):Option SS:=
 chk (decide ((qp [(39:UInt8)]).length * 1<=140737488355328)) (
 qC (nI n a) n ([(39:UInt8)],0))
theorem QG (n:Nat):∀ (c r:SS),pz n c=some r->qc TP 96 [PV.str c] (Bc r):=by
 intro c r h;unfold pz at h;refine zN Tryz.call96 Tryz.func96 [47,49,52,142,144,1000000] ?_;conv=>whnf
 refine zI Tryz.call49 Tryz.func49 [95,1000000] ?_;conv=>whnf
 refine zI Tryz.call95 Tryz.func95 [141,1000000] ?_;conv=>whnf
 refine⟨fun _=>?_,fun hf=>absurd hf (by first|decide|simp)⟩;conv=>whnf
 refine⟨⟨by decide,by first|decide|exact Nat.zero_lt_succ _⟩,?_⟩;conv=>whnf
 refine vF.noEscape Tryz.func141 (by kernel_rfl) (by kernel_rfl) (by kernel_rfl) (by kernel_rfl) ?_;conv=>whnf
 refine⟨by kernel_rfl,?_⟩;conv=>whnf
 refine⟨Codec.one zu [(39:UInt8)],qp [(39:UInt8)],.inl rfl,?_⟩;conv=>whnf
 obtain⟨a4,h⟩:=qb h;refine⟨⟨Codec.wide zu [(39:UInt8)],kod a4,qO a4 (by decide)⟩,?_⟩;conv=>whnf
 refine qP.fn [47,49,52,142,144,1000000] (S:=SS×Nat) (fun(a,b)=>[(0,pS c),(3,.ptr 0 0),(8,.ptr 1 0)]) (fun(a,b)=>[.box 124 [.ptr 0 0,.tsl 2 (qp a)],.sit c b,.tail 5 1 (qp a).length]) (B:=nI n c) h (wk [0,2,1] []) ?_;intro a7 st h;obtain⟨a,b⟩:=st;unfold nI at h;conv=>whnf
 refine⟨(decide (b<c.length)),(bif(decide (b<c.length))then xe c b else b),⟨rfl,rfl⟩,?_⟩;conv=>whnf
 apply ifc h<;>intro d h
 ·conv=>whnf
  refine⟨by assumption,?_⟩;conv=>whnf
  refine⟨by assumption,?_⟩;conv=>whnf
  refine⟨id,id,?_⟩;conv=>whnf
  apply ifc h<;>intro d h
  ·conv=>whnf
   refine zI Tryz.call49 Tryz.func49 [95,1000000] ?_;conv=>whnf
   refine zI Tryz.call95 Tryz.func95 [141,1000000] ?_;conv=>whnf
   refine⟨fun hf=>absurd hf (by first|decide|simp),fun _=>?_⟩;conv=>whnf
   refine⟨fun hf=>absurd hf (by first|decide|simp),fun _=>?_⟩;conv=>whnf
   refine⟨Codec.one zu [(92:UInt8)],qp [(92:UInt8)],.inl rfl,?_⟩;conv=>whnf
   rw[show qp a++qp [(92:UInt8)]=qp (a++[(92:UInt8)])from Codec.append zu a [(92:UInt8)]];conv=>whnf
   obtain⟨O,h⟩:=qb h;refine⟨⟨Codec.wide zu (a++[(92:UInt8)]),kod O,qO O (by decide)⟩,?_⟩;conv=>whnf
   refine⟨⟨rfl,rfl,rfl⟩,?_⟩;conv=>whnf
   refine zI Tryz.call142 Tryz.func142 [95,173,1000000] ?_;conv=>whnf
   refine zI Tryz.call95 Tryz.func95 [141,1000000] ?_;conv=>whnf
   refine⟨fun hf=>absurd hf (by first|decide|simp),fun _=>?_⟩;conv=>whnf
   refine⟨fun hf=>absurd hf (by first|decide|simp),fun _=>?_⟩;conv=>whnf
   refine zI Tryz.call173 Tryz.func173 [202,1000000] ?_;conv=>whnf
   apply ifc h<;>intro d h
   ·conv=>whnf
    refine bq h fun C a8 h=>?_;rw[show([[PV.int .u8 (kwr .u8 ((qN c b:Nat):Int))]]:List (List PV))=qp [C]from by rw[xN a8]; rfl];refine⟨Codec.one zu [C],_,.inl rfl,?_⟩;(conv=>whnf);rw[show qp (a++[(92:UInt8)])++qp [C]=qp ((a++[(92:UInt8)])++[C])from Codec.append zu (a++[(92:UInt8)]) [C]];(conv=>whnf);obtain⟨U,h⟩:=qb h;refine⟨⟨Codec.wide zu ((a++[(92:UInt8)])++[C]),kod U,qO U (by decide)⟩,?_⟩;(conv=>whnf);refine⟨⟨rfl,rfl,rfl⟩,?_⟩;(conv=>whnf);exact⟨(((a++[(92:UInt8)])++[C]),(bif(decide (b<c.length))then xe c b else b)),h,wk [0,1,4] []⟩
   conv=>whnf
   refine zI Tryz.call202 Tryz.func202 [1000000] ?_;conv=>whnf
   apply ifc h<;>intro d h
   ·conv=>whnf
    refine⟨by unfold gI; decide,?_⟩;(conv=>whnf);refine bq h fun D b9 h=>?_;refine bq h fun F c7 h=>?_;rw[show([[PV.int .u8 (kwr .u8 (((jr (kbt .u8) (192:Int) ||| jr (kbt .u8) (kwr .u8 (Int.fdiv ((qN c b:Nat):Int) (2 ^ (min (Int.toNat (6:Int)) (kbt .i32)))))).toNat:Nat):Int))],[PV.int .u8 (kwr .u8 (((jr (kbt .u8) (128:Int) ||| jr (kbt .u8) (kwr .u8 (((jr (kbt .u8) (kwr .u8 ((qN c b:Nat):Int)) &&& jr (kbt .u8) (63:Int)).toNat:Nat):Int))).toNat:Nat):Int))]]:List (List PV))=qp [D,F]from by rw[xN b9,xN c7]; rfl];refine⟨Codec.one zu [D,F],_,.inl rfl,?_⟩;(conv=>whnf);rw[show qp (a++[(92:UInt8)])++qp [D,F]=qp ((a++[(92:UInt8)])++[D,F])from Codec.append zu (a++[(92:UInt8)]) [D,F]];(conv=>whnf);obtain⟨a5,h⟩:=qb h;refine⟨⟨Codec.wide zu ((a++[(92:UInt8)])++[D,F]),kod a5,qO a5 (by decide)⟩,?_⟩;(conv=>whnf);refine⟨⟨rfl,rfl,rfl⟩,?_⟩;(conv=>whnf);exact⟨(((a++[(92:UInt8)])++[D,F]),(bif(decide (b<c.length))then xe c b else b)),h,wk [0,1,4] []⟩
   conv=>whnf
   refine gW.cut (S:=Bool) (fun L=>[(0,.tsl 3 (qp (a++[(92:UInt8)]))),(1,.p (.int .i32 ((qN c b:Nat):Int))),(5,.p (.int .u32 (kwr .u32 ((qN c b:Nat):Int)))),(25,pB L)]) (fun L=>[.box 124 [.ptr 0 0,.tsl 3 (qp (a++[(92:UInt8)]))],.sit c (bif(decide (b<c.length))then xe c b else b),.dead,.tail 5 1 (qp (a++[(92:UInt8)])).length]) (dy n c b a a7) (r:=r) ?_ ?_
   ·intro L h
    unfold dy at h;(conv=>whnf);apply ifc h<;>intro d h
    ·conv=>whnf
     refine⟨by unfold gI; decide,?_⟩;(conv=>whnf);refine⟨by unfold gI; decide,?_⟩;(conv=>whnf);refine bq h fun G d1 h=>?_;refine bq h fun H d2 h=>?_;refine bq h fun f d3 h=>?_;rw[show([[PV.int .u8 (kwr .u8 (((jr (kbt .u8) (224:Int) ||| jr (kbt .u8) (kwr .u8 (Int.fdiv ((qN c b:Nat):Int) (2 ^ (min (Int.toNat (12:Int)) (kbt .i32)))))).toNat:Nat):Int))],[PV.int .u8 (kwr .u8 (((jr (kbt .u8) (128:Int) ||| jr (kbt .u8) (kwr .u8 (((jr (kbt .u8) (kwr .u8 (Int.fdiv ((qN c b:Nat):Int) (2 ^ (min (Int.toNat (6:Int)) (kbt .i32))))) &&& jr (kbt .u8) (63:Int)).toNat:Nat):Int))).toNat:Nat):Int))],[PV.int .u8 (kwr .u8 (((jr (kbt .u8) (128:Int) ||| jr (kbt .u8) (kwr .u8 (((jr (kbt .u8) (kwr .u8 ((qN c b:Nat):Int)) &&& jr (kbt .u8) (63:Int)).toNat:Nat):Int))).toNat:Nat):Int))]]:List (List PV))=qp [G,H,f]from by rw[xN d1,xN d2,xN d3]; rfl];refine⟨Codec.one zu [G,H,f],_,.inl rfl,?_⟩;(conv=>whnf);rw[show qp (a++[(92:UInt8)])++qp [G,H,f]=qp ((a++[(92:UInt8)])++[G,H,f])from Codec.append zu (a++[(92:UInt8)]) [G,H,f]];(conv=>whnf);obtain⟨a6,h⟩:=qb h;refine⟨⟨Codec.wide zu ((a++[(92:UInt8)])++[G,H,f]),kod a6,qO a6 (by decide)⟩,?_⟩;(conv=>whnf);refine⟨⟨rfl,rfl,rfl⟩,?_⟩;(conv=>whnf);exact⟨(((a++[(92:UInt8)])++[G,H,f]),(bif(decide (b<c.length))then xe c b else b)),h,wk [0,1,4] []⟩
    (conv=>whnf);refine⟨id,id,?_⟩
    (conv=>whnf);apply ifc h<;>intro d h
    ·conv=>whnf
     refine⟨by unfold gI; decide,?_⟩;(conv=>whnf);refine⟨by unfold gI; decide,?_⟩;(conv=>whnf);refine⟨by unfold gI; decide,?_⟩;(conv=>whnf);refine bq h fun g a9 h=>?_;refine bq h fun i b0 h=>?_;refine bq h fun l b1 h=>?_;refine bq h fun m b2 h=>?_;rw[show([[PV.int .u8 (kwr .u8 (((jr (kbt .u8) (240:Int) ||| jr (kbt .u8) (kwr .u8 (Int.fdiv ((qN c b:Nat):Int) (2 ^ (min (Int.toNat (18:Int)) (kbt .i32)))))).toNat:Nat):Int))],[PV.int .u8 (kwr .u8 (((jr (kbt .u8) (128:Int) ||| jr (kbt .u8) (kwr .u8 (((jr (kbt .u8) (kwr .u8 (Int.fdiv ((qN c b:Nat):Int) (2 ^ (min (Int.toNat (12:Int)) (kbt .i32))))) &&& jr (kbt .u8) (63:Int)).toNat:Nat):Int))).toNat:Nat):Int))],[PV.int .u8 (kwr .u8 (((jr (kbt .u8) (128:Int) ||| jr (kbt .u8) (kwr .u8 (((jr (kbt .u8) (kwr .u8 (Int.fdiv ((qN c b:Nat):Int) (2 ^ (min (Int.toNat (6:Int)) (kbt .i32))))) &&& jr (kbt .u8) (63:Int)).toNat:Nat):Int))).toNat:Nat):Int))],[PV.int .u8 (kwr .u8 (((jr (kbt .u8) (128:Int) ||| jr (kbt .u8) (kwr .u8 (((jr (kbt .u8) (kwr .u8 ((qN c b:Nat):Int)) &&& jr (kbt .u8) (63:Int)).toNat:Nat):Int))).toNat:Nat):Int))]]:List (List PV))=qp [g,i,l,m]from by rw[xN a9,xN b0,xN b1,xN b2]; rfl];refine⟨Codec.one zu [g,i,l,m],_,.inl rfl,?_⟩;(conv=>whnf);rw[show qp (a++[(92:UInt8)])++qp [g,i,l,m]=qp ((a++[(92:UInt8)])++[g,i,l,m])from Codec.append zu (a++[(92:UInt8)]) [g,i,l,m]];(conv=>whnf);obtain⟨M,h⟩:=qb h;refine⟨⟨Codec.wide zu ((a++[(92:UInt8)])++[g,i,l,m]),kod M,qO M (by decide)⟩,?_⟩;(conv=>whnf);refine⟨⟨rfl,rfl,rfl⟩,?_⟩;(conv=>whnf);exact⟨(((a++[(92:UInt8)])++[g,i,l,m]),(bif(decide (b<c.length))then xe c b else b)),h,wk [0,1,4] []⟩
    (conv=>whnf);refine⟨Codec.one zu [(239:UInt8),(191:UInt8),(189:UInt8)],qp [(239:UInt8),(191:UInt8),(189:UInt8)],.inl rfl,?_⟩
    (conv=>whnf);rw[show qp (a++[(92:UInt8)])++qp [(239:UInt8),(191:UInt8),(189:UInt8)]=qp ((a++[(92:UInt8)])++[(239:UInt8),(191:UInt8),(189:UInt8)])from Codec.append zu (a++[(92:UInt8)]) [(239:UInt8),(191:UInt8),(189:UInt8)]]
    (conv=>whnf);obtain⟨N,h⟩:=qb h
    refine⟨⟨Codec.wide zu ((a++[(92:UInt8)])++[(239:UInt8),(191:UInt8),(189:UInt8)]),kod N,qO N (by decide)⟩,?_⟩;(conv=>whnf);refine⟨⟨rfl,rfl,rfl⟩,?_⟩;(conv=>whnf);exact⟨(((a++[(92:UInt8)])++[(239:UInt8),(191:UInt8),(189:UInt8)]),(bif(decide (b<c.length))then xe c b else b)),h,wk [0,1,4] []⟩
   conv=>whnf
   apply ifc h<;>intro d h
   ·conv=>whnf
    exact⟨(decide ((kwr .u32 ((qN c b:Nat):Int))<55296)),h,wk [0,1,2,3] []⟩
   conv=>whnf
   refine⟨id,id,?_⟩;conv=>whnf
   exact⟨(bif(decide ((57343:Int)<(kwr .u32 ((qN c b:Nat):Int))))then(decide ((kwr .u32 ((qN c b:Nat):Int))<=65535))else false),h,wk [0,1,2,3] []⟩
  conv=>whnf
  apply ifc h<;>intro d h
  ·conv=>whnf
   refine zI Tryz.call47 Tryz.func47 [95,1000000] ?_;conv=>whnf
   refine zI Tryz.call95 Tryz.func95 [141,1000000] ?_;conv=>whnf
   refine⟨fun hf=>absurd hf (by first|decide|simp),fun _=>?_⟩;conv=>whnf
   refine⟨fun hf=>absurd hf (by first|decide|simp),fun _=>?_⟩;conv=>whnf
   rw[show qp a++qp ([92,110]:SS)=qp (a++([92,110]:SS))from Codec.append zu a ([92,110]:SS)];conv=>whnf
   obtain⟨P,h⟩:=qb h;refine⟨⟨Codec.wide zu a,kod P,qO P (by decide)⟩,?_⟩;conv=>whnf
   refine⟨⟨rfl,rfl,rfl⟩,?_⟩;conv=>whnf
   exact⟨((a++([92,110]:SS)),(bif(decide (b<c.length))then xe c b else b)),h,wk [0,1,3] []⟩
  conv=>whnf
  apply ifc h<;>intro d h
  ·conv=>whnf
   refine zI Tryz.call47 Tryz.func47 [95,1000000] ?_;conv=>whnf
   refine zI Tryz.call95 Tryz.func95 [141,1000000] ?_;conv=>whnf
   refine⟨fun hf=>absurd hf (by first|decide|simp),fun _=>?_⟩;conv=>whnf
   refine⟨fun hf=>absurd hf (by first|decide|simp),fun _=>?_⟩;conv=>whnf
   rw[show qp a++qp ([92,116]:SS)=qp (a++([92,116]:SS))from Codec.append zu a ([92,116]:SS)];conv=>whnf
   obtain⟨Q,h⟩:=qb h;refine⟨⟨Codec.wide zu a,kod Q,qO Q (by decide)⟩,?_⟩;conv=>whnf
   refine⟨⟨rfl,rfl,rfl⟩,?_⟩;conv=>whnf
   exact⟨((a++([92,116]:SS)),(bif(decide (b<c.length))then xe c b else b)),h,wk [0,1,3] []⟩
  conv=>whnf
  apply ifc h<;>intro d h
  ·conv=>whnf
   refine zI Tryz.call47 Tryz.func47 [95,1000000] ?_;conv=>whnf
   refine zI Tryz.call95 Tryz.func95 [141,1000000] ?_;conv=>whnf
   refine⟨fun hf=>absurd hf (by first|decide|simp),fun _=>?_⟩;conv=>whnf
   refine⟨fun hf=>absurd hf (by first|decide|simp),fun _=>?_⟩;conv=>whnf
   rw[show qp a++qp ([92,114]:SS)=qp (a++([92,114]:SS))from Codec.append zu a ([92,114]:SS)];conv=>whnf
   obtain⟨R,h⟩:=qb h;refine⟨⟨Codec.wide zu a,kod R,qO R (by decide)⟩,?_⟩;conv=>whnf
   refine⟨⟨rfl,rfl,rfl⟩,?_⟩;conv=>whnf
   exact⟨((a++([92,114]:SS)),(bif(decide (b<c.length))then xe c b else b)),h,wk [0,1,3] []⟩
  conv=>whnf
  iterate 6 refine⟨id,?_⟩
  conv=>whnf
  refine bq h fun J d0 h=>⟨_,fun I=>qM (qa d0 I),?_⟩;conv=>whnf
  obtain⟨c9,h⟩:=qb h;refine⟨fun I=>⟨(kod (gd c9 I):(J<=c.length)),Nat.le_refl _⟩,?_⟩;rw[show List.drop J (List.take c.length c)=(c.drop J)from by rw[List.take_length]];conv=>whnf
  refine⟨id,?_⟩;conv=>whnf
  refine bq h fun _ c8 h=>⟨_,fun I=>(tY n _ _ _ (qa c8 I)),?_⟩;conv=>whnf
  refine⟨id,id,id,id,?_⟩;conv=>whnf
  apply ifc h<;>intro d h
  ·conv=>whnf
   refine bq h fun _ b5 h=>⟨_,zM b5,?_⟩;conv=>whnf
   refine zI Tryz.call144 Tryz.func144 [47,49,1000000] ?_;conv=>whnf
   refine zI Tryz.call47 Tryz.func47 [95,1000000] ?_;conv=>whnf
   refine zI Tryz.call95 Tryz.func95 [141,1000000] ?_;conv=>whnf
   refine⟨fun hf=>absurd hf (by first|decide|simp),fun _=>?_⟩;conv=>whnf
   refine⟨fun hf=>absurd hf (by first|decide|simp),fun _=>?_⟩;conv=>whnf
   rw[show qp a++qp ([92,120]:SS)=qp (a++([92,120]:SS))from Codec.append zu a ([92,120]:SS)];conv=>whnf
   obtain⟨X,h⟩:=qb h;refine⟨⟨Codec.wide zu a,kod X,qO X (by decide)⟩,?_⟩;conv=>whnf
   refine⟨⟨rfl,rfl,rfl⟩,?_⟩;conv=>whnf
   refine⟨by unfold gI; decide,?_⟩;conv=>whnf
   refine bq h fun e b4 h=>⟨_,zM b4,?_⟩;conv=>whnf
   refine zI Tryz.call49 Tryz.func49 [95,1000000] ?_;conv=>whnf
   refine zI Tryz.call95 Tryz.func95 [141,1000000] ?_;conv=>whnf
   refine⟨fun hf=>absurd hf (by first|decide|simp),fun _=>?_⟩;conv=>whnf
   refine⟨fun hf=>absurd hf (by first|decide|simp),fun _=>?_⟩;conv=>whnf
   refine⟨Codec.one zu [e],qp [e],.inl rfl,?_⟩;conv=>whnf
   rw[show qp (a++([92,120]:SS))++qp [e]=qp ((a++([92,120]:SS))++[e])from Codec.append zu (a++([92,120]:SS)) [e]];conv=>whnf
   obtain⟨W,h⟩:=qb h;refine⟨⟨Codec.wide zu ((a++([92,120]:SS))++[e]),kod W,qO W (by decide)⟩,?_⟩;conv=>whnf
   refine⟨⟨rfl,rfl,rfl⟩,?_⟩;conv=>whnf
   refine bq h fun o b3 h=>⟨_,zM b3,?_⟩;conv=>whnf
   refine zI Tryz.call49 Tryz.func49 [95,1000000] ?_;conv=>whnf
   refine zI Tryz.call95 Tryz.func95 [141,1000000] ?_;conv=>whnf
   refine⟨fun hf=>absurd hf (by first|decide|simp),fun _=>?_⟩;conv=>whnf
   refine⟨fun hf=>absurd hf (by first|decide|simp),fun _=>?_⟩;conv=>whnf
   refine⟨Codec.one zu [o],qp [o],.inl rfl,?_⟩;conv=>whnf
   rw[show qp ((a++([92,120]:SS))++[e])++qp [o]=qp (((a++([92,120]:SS))++[e])++[o])from Codec.append zu ((a++([92,120]:SS))++[e]) [o]];conv=>whnf
   obtain⟨V,h⟩:=qb h;refine⟨⟨Codec.wide zu (((a++([92,120]:SS))++[e])++[o]),kod V,qO V (by decide)⟩,?_⟩;conv=>whnf
   refine⟨⟨rfl,rfl,rfl⟩,?_⟩;conv=>whnf
   exact⟨((((a++([92,120]:SS))++[e])++[o]),(bif(decide (b<c.length))then xe c b else b)),h,wk [0,1,5] []⟩
  conv=>whnf
  refine zI Tryz.call142 Tryz.func142 [95,173,1000000] ?_;conv=>whnf
  refine zI Tryz.call95 Tryz.func95 [141,1000000] ?_;conv=>whnf
  refine⟨fun hf=>absurd hf (by first|decide|simp),fun _=>?_⟩;conv=>whnf
  refine⟨fun hf=>absurd hf (by first|decide|simp),fun _=>?_⟩;conv=>whnf
  refine zI Tryz.call173 Tryz.func173 [202,1000000] ?_;conv=>whnf
  apply ifc h<;>intro d h
  ·conv=>whnf
   refine bq h fun q b6 h=>?_;rw[show([[PV.int .u8 (kwr .u8 ((qN c b:Nat):Int))]]:List (List PV))=qp [q]from by rw[xN b6]; rfl];refine⟨Codec.one zu [q],_,.inl rfl,?_⟩;conv=>whnf
   rw[show qp a++qp [q]=qp (a++[q])from Codec.append zu a [q]];conv=>whnf
   obtain⟨Y,h⟩:=qb h;refine⟨⟨Codec.wide zu (a++[q]),kod Y,qO Y (by decide)⟩,?_⟩;conv=>whnf
   refine⟨⟨rfl,rfl,rfl⟩,?_⟩;conv=>whnf
   exact⟨((a++[q]),(bif(decide (b<c.length))then xe c b else b)),h,wk [0,1,3] []⟩
  conv=>whnf
  refine zI Tryz.call202 Tryz.func202 [1000000] ?_;conv=>whnf
  apply ifc h<;>intro d h
  ·conv=>whnf
   refine⟨by unfold gI; decide,?_⟩;conv=>whnf
   refine bq h fun s b7 h=>?_;refine bq h fun t b8 h=>?_;rw[show([[PV.int .u8 (kwr .u8 (((jr (kbt .u8) (192:Int) ||| jr (kbt .u8) (kwr .u8 (Int.fdiv ((qN c b:Nat):Int) (2 ^ (min (Int.toNat (6:Int)) (kbt .i32)))))).toNat:Nat):Int))],[PV.int .u8 (kwr .u8 (((jr (kbt .u8) (128:Int) ||| jr (kbt .u8) (kwr .u8 (((jr (kbt .u8) (kwr .u8 ((qN c b:Nat):Int)) &&& jr (kbt .u8) (63:Int)).toNat:Nat):Int))).toNat:Nat):Int))]]:List (List PV))=qp [s,t]from by rw[xN b7,xN b8]; rfl];refine⟨Codec.one zu [s,t],_,.inl rfl,?_⟩;conv=>whnf
   rw[show qp a++qp [s,t]=qp (a++[s,t])from Codec.append zu a [s,t]];conv=>whnf
   obtain⟨Z,h⟩:=qb h;refine⟨⟨Codec.wide zu (a++[s,t]),kod Z,qO Z (by decide)⟩,?_⟩;conv=>whnf
   refine⟨⟨rfl,rfl,rfl⟩,?_⟩;conv=>whnf
   exact⟨((a++[s,t]),(bif(decide (b<c.length))then xe c b else b)),h,wk [0,1,3] []⟩
  conv=>whnf
  refine gW.cut (S:=Bool) (fun K=>[(0,.tsl 2 (qp a)),(1,.p (.int .i32 ((qN c b:Nat):Int))),(5,.p (.int .u32 (kwr .u32 ((qN c b:Nat):Int)))),(25,pB K)]) (fun K=>[.box 124 [.ptr 0 0,.tsl 2 (qp a)],.sit c (bif(decide (b<c.length))then xe c b else b),.tail 5 1 (qp a).length]) (dz n c b a a7) (r:=r) ?_ ?_
  ·intro K h
   unfold dz at h;conv=>whnf
   apply ifc h<;>intro d h
   ·conv=>whnf
    refine⟨by unfold gI; decide,?_⟩;(conv=>whnf);refine⟨by unfold gI; decide,?_⟩;(conv=>whnf);refine bq h fun u c0 h=>?_;refine bq h fun v c1 h=>?_;refine bq h fun w c2 h=>?_;rw[show([[PV.int .u8 (kwr .u8 (((jr (kbt .u8) (224:Int) ||| jr (kbt .u8) (kwr .u8 (Int.fdiv ((qN c b:Nat):Int) (2 ^ (min (Int.toNat (12:Int)) (kbt .i32)))))).toNat:Nat):Int))],[PV.int .u8 (kwr .u8 (((jr (kbt .u8) (128:Int) ||| jr (kbt .u8) (kwr .u8 (((jr (kbt .u8) (kwr .u8 (Int.fdiv ((qN c b:Nat):Int) (2 ^ (min (Int.toNat (6:Int)) (kbt .i32))))) &&& jr (kbt .u8) (63:Int)).toNat:Nat):Int))).toNat:Nat):Int))],[PV.int .u8 (kwr .u8 (((jr (kbt .u8) (128:Int) ||| jr (kbt .u8) (kwr .u8 (((jr (kbt .u8) (kwr .u8 ((qN c b:Nat):Int)) &&& jr (kbt .u8) (63:Int)).toNat:Nat):Int))).toNat:Nat):Int))]]:List (List PV))=qp [u,v,w]from by rw[xN c0,xN c1,xN c2]; rfl];refine⟨Codec.one zu [u,v,w],_,.inl rfl,?_⟩;(conv=>whnf);rw[show qp a++qp [u,v,w]=qp (a++[u,v,w])from Codec.append zu a [u,v,w]];(conv=>whnf);obtain⟨a0,h⟩:=qb h;refine⟨⟨Codec.wide zu (a++[u,v,w]),kod a0,qO a0 (by decide)⟩,?_⟩;(conv=>whnf);refine⟨⟨rfl,rfl,rfl⟩,?_⟩;(conv=>whnf);exact⟨((a++[u,v,w]),(bif(decide (b<c.length))then xe c b else b)),h,wk [0,1,3] []⟩
   conv=>whnf
   refine⟨id,id,?_⟩;conv=>whnf
   apply ifc h<;>intro d h
   ·conv=>whnf
    refine⟨by unfold gI; decide,?_⟩;(conv=>whnf);refine⟨by unfold gI; decide,?_⟩;(conv=>whnf);refine⟨by unfold gI; decide,?_⟩;(conv=>whnf);refine bq h fun x c3 h=>?_;refine bq h fun y c4 h=>?_;refine bq h fun z c5 h=>?_;refine bq h fun A c6 h=>?_;rw[show([[PV.int .u8 (kwr .u8 (((jr (kbt .u8) (240:Int) ||| jr (kbt .u8) (kwr .u8 (Int.fdiv ((qN c b:Nat):Int) (2 ^ (min (Int.toNat (18:Int)) (kbt .i32)))))).toNat:Nat):Int))],[PV.int .u8 (kwr .u8 (((jr (kbt .u8) (128:Int) ||| jr (kbt .u8) (kwr .u8 (((jr (kbt .u8) (kwr .u8 (Int.fdiv ((qN c b:Nat):Int) (2 ^ (min (Int.toNat (12:Int)) (kbt .i32))))) &&& jr (kbt .u8) (63:Int)).toNat:Nat):Int))).toNat:Nat):Int))],[PV.int .u8 (kwr .u8 (((jr (kbt .u8) (128:Int) ||| jr (kbt .u8) (kwr .u8 (((jr (kbt .u8) (kwr .u8 (Int.fdiv ((qN c b:Nat):Int) (2 ^ (min (Int.toNat (6:Int)) (kbt .i32))))) &&& jr (kbt .u8) (63:Int)).toNat:Nat):Int))).toNat:Nat):Int))],[PV.int .u8 (kwr .u8 (((jr (kbt .u8) (128:Int) ||| jr (kbt .u8) (kwr .u8 (((jr (kbt .u8) (kwr .u8 ((qN c b:Nat):Int)) &&& jr (kbt .u8) (63:Int)).toNat:Nat):Int))).toNat:Nat):Int))]]:List (List PV))=qp [x,y,z,A]from by rw[xN c3,xN c4,xN c5,xN c6]; rfl];refine⟨Codec.one zu [x,y,z,A],_,.inl rfl,?_⟩;(conv=>whnf);rw[show qp a++qp [x,y,z,A]=qp (a++[x,y,z,A])from Codec.append zu a [x,y,z,A]];(conv=>whnf);obtain⟨a1,h⟩:=qb h;refine⟨⟨Codec.wide zu (a++[x,y,z,A]),kod a1,qO a1 (by decide)⟩,?_⟩;(conv=>whnf);refine⟨⟨rfl,rfl,rfl⟩,?_⟩;(conv=>whnf);exact⟨((a++[x,y,z,A]),(bif(decide (b<c.length))then xe c b else b)),h,wk [0,1,3] []⟩
   conv=>whnf
   refine⟨Codec.one zu [(239:UInt8),(191:UInt8),(189:UInt8)],qp [(239:UInt8),(191:UInt8),(189:UInt8)],.inl rfl,?_⟩;conv=>whnf
   rw[show qp a++qp [(239:UInt8),(191:UInt8),(189:UInt8)]=qp (a++[(239:UInt8),(191:UInt8),(189:UInt8)])from Codec.append zu a [(239:UInt8),(191:UInt8),(189:UInt8)]];conv=>whnf
   obtain⟨a2,h⟩:=qb h;refine⟨⟨Codec.wide zu (a++[(239:UInt8),(191:UInt8),(189:UInt8)]),kod a2,qO a2 (by decide)⟩,?_⟩;conv=>whnf
   refine⟨⟨rfl,rfl,rfl⟩,?_⟩;conv=>whnf
   exact⟨((a++[(239:UInt8),(191:UInt8),(189:UInt8)]),(bif(decide (b<c.length))then xe c b else b)),h,wk [0,1,3] []⟩
  conv=>whnf
  apply ifc h<;>intro d h
  ·conv=>whnf
   exact⟨(decide ((kwr .u32 ((qN c b:Nat):Int))<55296)),h,wk [0,1,2] []⟩
  conv=>whnf
  refine⟨id,id,?_⟩;conv=>whnf
  exact⟨(bif(decide ((57343:Int)<(kwr .u32 ((qN c b:Nat):Int))))then(decide ((kwr .u32 ((qN c b:Nat):Int))<=65535))else false),h,wk [0,1,2] []⟩
 conv=>whnf
 refine zI Tryz.call49 Tryz.func49 [95,1000000] ?_;conv=>whnf
 refine zI Tryz.call95 Tryz.func95 [141,1000000] ?_;conv=>whnf
 refine⟨fun hf=>absurd hf (by first|decide|simp),fun _=>?_⟩;conv=>whnf
 refine⟨fun hf=>absurd hf (by first|decide|simp),fun _=>?_⟩;conv=>whnf
 refine⟨Codec.one zu [(39:UInt8)],qp [(39:UInt8)],.inl rfl,?_⟩;conv=>whnf
 rw[show qp a++qp [(39:UInt8)]=qp (a++[(39:UInt8)])from Codec.append zu a [(39:UInt8)]];conv=>whnf
 obtain⟨a3,h⟩:=qb h;refine⟨⟨Codec.wide zu (a++[(39:UInt8)]),kod a3,qO a3 (by decide)⟩,?_⟩;conv=>whnf
 refine⟨⟨rfl,rfl,rfl⟩,?_⟩;conv=>whnf
 refine vF.string_any (T:=124) (E:=5) MS ZI ZH (k:=0) (j:=3) (bs:=(a++[(39:UInt8)])) (n:=(qp (a++[(39:UInt8)])).length) rfl rfl ?_;obtain rfl:=sj h;conv=>whnf
 try exact oX
abbrev ET (r:SS):PV:=PV.str r
def sB (n:Nat) (a:SS):Option SS:=
 bnd (ZW n a) fun b=>
 bif b then(
 some a)
 else(
 bnd (pz n a) fun c=>
 some c)
theorem mS (n:Nat):∀ (a r:SS),sB n a=some r->qc TP 51 [PV.str a] (ET r):=by
 intro a r h;unfold sB at h;refine zN Tryz.call51 Tryz.func51 [1000000] ?_;conv=>whnf
 refine bq h fun _ c h=>⟨_,(Cx n _ _ c),?_⟩;conv=>whnf
 apply ifc h<;>intro _ h
 ·obtain rfl:=sj h
  conv=>whnf
  try exact oX
 conv=>whnf
 refine bq h fun _ b h=>⟨_,(QG n _ _ b),?_⟩;obtain rfl:=sj h;conv=>whnf
 try exact oX
end W
end
section
set_option maxRecDepth 100000
set_option maxHeartbeats 20000000
open Go Go.Proofs Ax
namespace W
abbrev mW (r:SS):PV:=PV.str r
def bM (n:Nat) (a:List SS) (c:List SS×Int->Option SS) (d:Int):SS->Option SS:=fun b=>
 chk (decide ((qi (a++[b])).length * 16<=140737488355328)) (
 c ((a++[b]),(kwr .i64 (d+1))))
abbrev aS:Type:=Val->Option SS
def rL (n:Nat) (j:List Val) (g48:aS) (i:Int) (k:List SS):(List SS×Int->Option SS)->List SS×Int->Option SS:=fun g (b,a)=>
 bif(decide (a<((Val.rows j).length:Int)))then(
 bnd (idx j a) fun⟨l,m,o,p,q,s⟩=>
 bnd (g48 (Val.mk l m o p q s)) fun c=>
 bif(bif(i==5)then(decide (a<((qi k).length:Int)))else false)then(
 bnd (idx k a) fun t=>
 bnd (sB n t) fun d=>
 chk (decide (((d.length+([58,32]:SS).length:Nat):Int)<=rY)) (
 chk (decide ((((d++([58,32]:SS)).length+c.length:Nat):Int)<=rY)) (
 bM n b g a ((d++([58,32]:SS))++c))))
 else(
 bM n b g a c))
 else(
 bif(i==5)then(
 bnd (rN n b ([44,32]:SS)) fun e=>
 chk (decide (((([123]:SS).length+e.length:Nat):Int)<=rY)) (
 chk (decide ((((([123]:SS)++e).length+([125]:SS).length:Nat):Int)<=rY)) (
 some ((([123]:SS)++e)++([125]:SS)))))
 else(
 bnd (rN n b ([44,32]:SS)) fun f=>
 chk (decide (((([91]:SS).length+f.length:Nat):Int)<=rY)) (
 chk (decide ((((([91]:SS)++f).length+([93]:SS).length:Nat):Int)<=rY)) (
 some ((([91]:SS)++f)++([93]:SS))))))
def bL (n:Nat) (c:List Val) (g48:aS) (a:Int) (d:List SS):Bool->Option SS:=fun b=>
 bif b then(
 qC (rL n c g48 a d) n (([]:List _),(0:Int)))
 else(
 some ([110,117,108,108]:SS))
def Qk (n:Nat) (g48:aS) (g:Val):Option SS:=
 match g with
 | ⟨a,i,b,j,d,e⟩=>
 bif(a==1)then(
 bif i then(
 some ([116,114,117,101]:SS))
 else(
 some ([102,97,108,115,101]:SS)))
 else(
 bif(a==2)then(
 bnd (fK n b) fun k=>
 some k)
 else(
 bif(a==3)then(
 bnd (pz n j) fun l=>
 some l)
 else(
 bif(a==6)then(
 bnd (fK n b) fun f=>
 chk (decide (((([35,110]:SS).length+f.length:Nat):Int)<=rY)) (
 some (([35,110]:SS)++f)))
 else(
 bif(a==7)then(
 bnd (fK n b) fun c=>
 chk (decide (((([35,101]:SS).length+c.length:Nat):Int)<=rY)) (
 some (([35,101]:SS)++c)))
 else(
 bif(a==4)then(
 bL n d g48 a e (a==4))
 else(
 bL n d g48 a e (a==5)))))))
theorem Gv (n:Nat) (g48:aS) (g48_ok:∀ (e:Val) (r:SS),g48 e=some r->qc TP 48 [PV.agg (xZ.cells e)] (mW r)):∀ (e:Val) (r:SS),Qk n g48 e=some r->qc TP 48 [PV.agg (xZ.cells e)] (mW r):=by
 intro e r h;obtain⟨f,k,o,q,d,i⟩:=e;unfold Qk at h;refine zN Tryz.call48 Tryz.func48 [1000000] ?_;conv=>whnf
 apply ifc h<;>intro b h
 ·conv=>whnf
  apply ifc h<;>intro b h
  ·obtain rfl:=sj h
   conv=>whnf
   try exact oX
  obtain rfl:=sj h;conv=>whnf
  try exact oX
 conv=>whnf
 apply ifc h<;>intro b h
 ·conv=>whnf
  refine bq h fun _ v h=>⟨_,(gi n _ _ v),?_⟩;obtain rfl:=sj h;conv=>whnf
  try exact oX
 conv=>whnf
 apply ifc h<;>intro b h
 ·conv=>whnf
  refine bq h fun _ H h=>⟨_,(QG n _ _ H),?_⟩;obtain rfl:=sj h;conv=>whnf
  try exact oX
 conv=>whnf
 apply ifc h<;>intro b h
 ·conv=>whnf
  refine bq h fun Q J h=>⟨_,(gi n _ _ J),?_⟩;conv=>whnf
  obtain⟨I,h⟩:=qb h;refine⟨(kod I:((([35,110]:SS).length+Q.length:Nat):Int)<=rY),?_⟩;obtain rfl:=sj h;conv=>whnf
  try exact oX
 conv=>whnf
 apply ifc h<;>intro b h
 ·conv=>whnf
  refine bq h fun P L h=>⟨_,(gi n _ _ L),?_⟩;conv=>whnf
  obtain⟨K,h⟩:=qb h;refine⟨(kod K:((([35,101]:SS).length+P.length:Nat):Int)<=rY),?_⟩;obtain rfl:=sj h;conv=>whnf
  try exact oX
 conv=>whnf
 refine gW.cut (S:=Bool) (fun j=>[(1,.ptr 0 0),(35,pB j)]) (fun j=>[.box 35 [pI f,pB k,pI o,pS q,pV d,pT i]]) (bL n d g48 f i) (r:=r) ?_ ?_
 ·intro j h
  unfold bL at h;conv=>whnf
  apply ifc h<;>intro b h
  ·conv=>whnf
   refine qP.fn [1000000] (S:=List SS×Int) (fun(a,g)=>[(1,.ptr 0 0),(3,.tsl 1 (qi a)),(39,pV d),(40,.p (.int .i64 ((Val.rows d).length:Int))),(41,pI g)]) (fun(a,g)=>[.box 35 [pI f,pB k,pI o,pS q,pV d,pT i],.tail 9 1 (qi a).length]) (B:=rL n d g48 f i) h (wk [0,0] [1]) ?_;intro O st h;obtain⟨a,g⟩:=st;unfold rL at h;conv=>whnf
   apply ifc h<;>intro b h
   ·conv=>whnf
    refine bq h fun⟨_,_,_,_,_,_⟩ z h=>⟨_,Codec.at_ xZ z,?_⟩;(conv=>whnf);refine bq h fun l y h=>⟨_,(g48_ok _ _ y),?_⟩;(conv=>whnf);refine gW.cut (S:=SS) (fun c=>[(1,.ptr 0 0),(3,.tsl 1 (qi a)),(6,pS c),(39,pV d),(40,.p (.int .i64 ((Val.rows d).length:Int))),(41,pI g)]) (fun c=>[.box 35 [pI f,pB k,pI o,pS q,pV d,pT i],.tail 9 1 (qi a).length]) (bM n a O g) (r:=r) ?_ ?_
    ·intro c h
     unfold bM at h;(conv=>whnf);refine⟨Codec.one cV [c],qi [c],.inl rfl,?_⟩;(conv=>whnf);rw[show qi a++qi [c]=qi (a++[c])from Codec.append cV a [c]];(conv=>whnf);obtain⟨s,h⟩:=qb h;refine⟨⟨Codec.wide cV (a++[c]),kod s,qO s (by decide)⟩,?_⟩;(conv=>whnf);refine⟨⟨rfl,rfl,rfl⟩,?_⟩;(conv=>whnf);exact⟨((a++[c]),(kwr .i64 (g+1))),h,wk [0,2] []⟩
    (conv=>whnf);refine⟨id,?_⟩
    (conv=>whnf);refine⟨id,id,id,id,?_⟩
    (conv=>whnf);apply ifc h<;>intro b h
    ·conv=>whnf
     refine bq h fun _ x h=>⟨_,Codec.at_ cV x,?_⟩;(conv=>whnf);refine bq h fun m w h=>⟨_,(mS n _ _ w),?_⟩;(conv=>whnf);obtain⟨N,h⟩:=qb h;refine⟨(kod N:((m.length+([58,32]:SS).length:Nat):Int)<=rY),?_⟩;(conv=>whnf);obtain⟨M,h⟩:=qb h;refine⟨(kod M:(((m++([58,32]:SS)).length+l.length:Nat):Int)<=rY),?_⟩;(conv=>whnf);exact⟨((m++([58,32]:SS))++l),h,wk [0,1] []⟩
    (conv=>whnf);exact⟨l,h,wk [0,1] []⟩
   conv=>whnf
   apply ifc h<;>intro b h
   ·conv=>whnf
    refine bq h fun t D h=>⟨_,(sC n _ _ _ D),?_⟩;(conv=>whnf);obtain⟨C,h⟩:=qb h;refine⟨(kod C:((([123]:SS).length+t.length:Nat):Int)<=rY),?_⟩;(conv=>whnf);obtain⟨A,h⟩:=qb h;refine⟨(kod A:(((([123]:SS)++t).length+([125]:SS).length:Nat):Int)<=rY),?_⟩;obtain rfl:=sj h;conv=>whnf
    try exact oX
   conv=>whnf
   refine bq h fun u G h=>⟨_,(sC n _ _ _ G),?_⟩;conv=>whnf
   obtain⟨F,h⟩:=qb h;refine⟨(kod F:((([91]:SS).length+u.length:Nat):Int)<=rY),?_⟩;conv=>whnf
   obtain⟨E,h⟩:=qb h;refine⟨(kod E:(((([91]:SS)++u).length+([93]:SS).length:Nat):Int)<=rY),?_⟩;obtain rfl:=sj h;conv=>whnf
   try exact oX
  obtain rfl:=sj h;conv=>whnf
  try exact oX
 conv=>whnf
 apply ifc h<;>intro b h
 ·conv=>whnf
  exact⟨(f==4),h,wk [0] []⟩
 conv=>whnf
 exact⟨(f==5),h,wk [0] []⟩
def bf:Nat->Val->Option SS
 | 0=>fun _=>none
 | n+1=>Qk n (bf n)
theorem GV (n:Nat):(∀ (a:Val) (r:SS),bf n a=some r->qc TP 48 [PV.agg (xZ.cells a)] (mW r)):=by
 induction n with
 | zero=>exact(by intros; rename_i h; cases h)
 | succ n ih=>
  have hg48:=ih;exact Gv n (bf n) hg48
theorem rM (n:Nat):∀ (a:Val) (r:SS),bf n a=some r->qc TP 48 [PV.agg (xZ.cells a)] (mW r):=(GV n)
abbrev Ba (r:SS):PV:=PV.str r
def uO (n:Nat) (b:Int×SS->Option SS) (c:Int):SS->Option SS:=fun a=>
 chk (decide ((qp (a++[(10:UInt8)])).length * 1<=140737488355328)) (
 b ((kwr .i64 (c+1)),(a++[(10:UInt8)])))
def fo (n:Nat) (g i:List SS) (l:List Val) (e:Int×SS->Option SS) (f:Int):(Int×SS->Option SS)->Int×SS->Option SS:=fun j (b,a)=>
 bif(decide (b<((qi g).length:Int)))then(
 bnd (idx g b) fun k=>
 bnd (sB n k) fun c=>
 chk (decide (((([58]:SS).length+c.length:Nat):Int)<=rY)) (
 chk (decide ((qp (a++(([58]:SS)++c))).length * 1<=140737488355328)) (
 j ((kwr .i64 (b+1)),(a++(([58]:SS)++c))))))
 else(
 bif(decide (((qi i).length:Int)>0))then(
 bnd (bf n (Val.mk (5:Int) false (0:Int) ([]:SS) l i)) fun d=>
 chk (decide (((([32]:SS).length+d.length:Nat):Int)<=rY)) (
 chk (decide ((qp (a++(([32]:SS)++d))).length * 1<=140737488355328)) (
 uO n e f (a++(([32]:SS)++d)))))
 else(
 uO n e f a))
def du (n:Nat) (b:Int×SS->Option SS) (c:Int):SS->Option SS:=fun a=>
 chk (decide ((qp (a++[(10:UInt8)])).length * 1<=140737488355328)) (
 b ((kwr .i64 (c+1)),(a++[(10:UInt8)])))
def nF (n:Nat) (j:List Edge):(Int×SS->Option SS)->Int×SS->Option SS:=fun i (f,d)=>
 bif(decide (f<((Edge.rows j).length:Int)))then(
 bnd (idx j f) fun⟨l,m,o,p,k,q⟩=>
 bnd (fK n l) fun a=>
 chk (decide (((([35,101]:SS).length+a.length:Nat):Int)<=rY)) (
 chk (decide ((((([35,101]:SS)++a).length+([58]:SS).length:Nat):Int)<=rY)) (
 bnd (sB n p) fun b=>
 chk (decide (((((([35,101]:SS)++a)++([58]:SS)).length+b.length:Nat):Int)<=rY)) (
 chk (decide ((((((([35,101]:SS)++a)++([58]:SS))++b).length+([32,35,110]:SS).length:Nat):Int)<=rY)) (
 bnd (fK n m) fun c=>
 chk (decide (((((((([35,101]:SS)++a)++([58]:SS))++b)++([32,35,110]:SS)).length+c.length:Nat):Int)<=rY)) (
 chk (decide ((((((((([35,101]:SS)++a)++([58]:SS))++b)++([32,35,110]:SS))++c).length+([32,35,110]:SS).length:Nat):Int)<=rY)) (
 bnd (fK n o) fun e=>
 chk (decide (((((((((([35,101]:SS)++a)++([58]:SS))++b)++([32,35,110]:SS))++c)++([32,35,110]:SS)).length+e.length:Nat):Int)<=rY)) (
 chk (decide ((qp (d++(((((((([35,101]:SS)++a)++([58]:SS))++b)++([32,35,110]:SS))++c)++([32,35,110]:SS))++e))).length * 1<=140737488355328)) (
 bif(decide (((qi k).length:Int)>0))then(
 bnd (bf n (Val.mk (5:Int) false (0:Int) ([]:SS) q k)) fun g=>
 chk (decide (((([32]:SS).length+g.length:Nat):Int)<=rY)) (
 chk (decide ((qp ((d++(((((((([35,101]:SS)++a)++([58]:SS))++b)++([32,35,110]:SS))++c)++([32,35,110]:SS))++e))++(([32]:SS)++g))).length * 1<=140737488355328)) (
 du n i f ((d++(((((((([35,101]:SS)++a)++([58]:SS))++b)++([32,35,110]:SS))++c)++([32,35,110]:SS))++e))++(([32]:SS)++g)))))
 else(
 du n i f (d++(((((((([35,101]:SS)++a)++([58]:SS))++b)++([32,35,110]:SS))++c)++([32,35,110]:SS))++e))))))))))))
 else(
 some d)
def nE (n:Nat) (d:List Node) (f:List Edge):(Int×SS->Option SS)->Int×SS->Option SS:=fun e (a,b)=>
 bif(decide (a<((Node.rows d).length:Int)))then(
 bnd (idx d a) fun⟨g,i,j,k⟩=>
 bnd (fK n g) fun c=>
 chk (decide (((([35,110]:SS).length+c.length:Nat):Int)<=rY)) (
 chk (decide ((qp (b++(([35,110]:SS)++c))).length * 1<=140737488355328)) (
 qC (fo n i j k e a) n ((0:Int),(b++(([35,110]:SS)++c))))))
 else(
 qC (nF n f) n ((0:Int),b))
def QE (n:Nat) (a:Graph):Option SS:=
 match a with
 | ⟨b,c⟩=>
 qC (nE n b c) n ((0:Int),([]:List _))
theorem GU (n:Nat):∀ (I:Graph) (r:SS),QE n I=some r->qc TP 22 [PV.agg (vG.cells I)] (Ba r):=by
 intro I r h;obtain⟨i,u⟩:=I;unfold QE at h;refine zN Tryz.call22 Tryz.func22 [46,47,52,20000036,20000070,1000000] ?_;conv=>whnf
 refine qP.fn [46,47,52,20000036,20000070,1000000] (S:=Int×SS) (fun(q,l)=>[(1,.ptr 0 0),(3,.ptr 1 0),(4,.clo 46 (.cap (.ptr 1 0) (.cap0))),(13,.p (.sl (Node.rows i))),(14,.p (.int .i64 ((Node.rows i).length:Int))),(15,pI q)]) (fun(q,l)=>[.box 29 [.p (.sl (Node.rows i)),.p (.sl (Edge.rows u))],.box 124 [.bself 1,.tsl 2 (qp l)],.tail 5 1 (qp l).length]) (B:=nE n i u) h (wk [0,1,0] [2]) ?_;intro K st h;obtain⟨q,l⟩:=st;unfold nE at h;conv=>whnf
 apply ifc h<;>intro x h
 ·conv=>whnf
  refine bq h fun⟨L,s,y,z⟩ a3 h=>⟨_,Codec.at_ zL a3,?_⟩;conv=>whnf
  refine bq h fun w a2 h=>⟨_,(gi n _ _ a2),?_⟩;conv=>whnf
  obtain⟨a1,h⟩:=qb h;refine⟨(kod a1:((([35,110]:SS).length+w.length:Nat):Int)<=rY),?_⟩;conv=>whnf
  refine zI Tryz.call47 Tryz.func47 [95,1000000] ?_;conv=>whnf
  refine zI Tryz.call95 Tryz.func95 [141,1000000] ?_;conv=>whnf
  refine⟨?_,?_⟩
  ·conv=>whnf
   refine⟨fun _=>?_,fun hf=>absurd hf (by first|decide|simp)⟩;conv=>whnf
   refine⟨⟨by decide,by first|decide|exact Nat.zero_lt_succ _⟩,?_⟩;conv=>whnf
   refine vF.noEscape Tryz.func141 (by kernel_rfl) (by kernel_rfl) (by kernel_rfl) (by kernel_rfl) ?_;conv=>whnf
   refine⟨by kernel_rfl,?_⟩;conv=>whnf
   rw[show qp l++qp (([35,110]:SS)++w)=qp (l++(([35,110]:SS)++w))from Codec.append zu l (([35,110]:SS)++w)];conv=>whnf
   obtain⟨F,h⟩:=qb h;refine⟨⟨Codec.wide zu l,kod F,qO F (by decide)⟩,?_⟩;conv=>whnf
   refine⟨⟨rfl,rfl,rfl⟩,?_⟩;conv=>whnf
   refine qP.fn [46,47,52,20000036,20000070,1000000] (S:=Int×SS) (fun(t,a)=>[(1,.ptr 0 0),(3,.ptr 1 0),(4,.clo 46 (.cap (.ptr 1 0) (.cap0))),(6,.ptr 2 0),(13,.p (.sl (Node.rows i))),(14,.p (.int .i64 ((Node.rows i).length:Int))),(15,pI q),(25,pT s),(26,.p (.int .i64 ((qi s).length:Int))),(27,pI t)]) (fun(t,a)=>[.box 29 [.p (.sl (Node.rows i)),.p (.sl (Edge.rows u))],.box 124 [.ptr 1 0,.tsl 3 (qp a)],.box 88 [pI L,pT s,pT y,pV z],.tail 5 1 (qp a).length]) (B:=fo n s y z K q) h (wk [0,1,3,4] []) ?_;intro b8 st h;obtain⟨t,a⟩:=st;unfold fo at h;conv=>whnf
   apply ifc h<;>intro x h
   ·conv=>whnf
    refine bq h fun c0 O h=>⟨_,Codec.at_ cV O,?_⟩;(conv=>whnf);refine bq h fun m N h=>⟨_,(mS n _ _ N),?_⟩;(conv=>whnf);obtain⟨M,h⟩:=qb h;refine⟨(kod M:((([58]:SS).length+m.length:Nat):Int)<=rY),?_⟩;(conv=>whnf);refine zI Tryz.call47 Tryz.func47 [95,1000000] ?_;(conv=>whnf);refine zI Tryz.call95 Tryz.func95 [141,1000000] ?_;(conv=>whnf);refine⟨fun hf=>absurd hf (by first|decide|simp),fun _=>?_⟩;conv=>whnf
    refine⟨fun hf=>absurd hf (by first|decide|simp),fun _=>?_⟩;conv=>whnf
    rw[show qp a++qp (([58]:SS)++m)=qp (a++(([58]:SS)++m))from Codec.append zu a (([58]:SS)++m)];(conv=>whnf);obtain⟨A,h⟩:=qb h;refine⟨⟨Codec.wide zu a,kod A,qO A (by decide)⟩,?_⟩;(conv=>whnf);refine⟨⟨rfl,rfl,rfl⟩,?_⟩;(conv=>whnf);exact⟨((kwr .i64 (t+1)),(a++(([58]:SS)++m))),h,wk [0,1,2,4] []⟩
   conv=>whnf
   refine zI Tryz.call46 Tryz.func46 [47,49,1000000] ?_;conv=>whnf
   refine gW.cut (S:=SS) (fun e=>[(2,.ptr 1 0)]) (fun e=>[.box 29 [.p (.sl (Node.rows i)),.p (.sl (Edge.rows u))],.box 124 [.ptr 1 0,.tsl 4 (qp e)],.box 88 [pI L,pT s,pT y,pV z],.dead,.tail 5 1 (qp e).length]) (uO n K q) (r:=r) ?_ ?_
   ·intro e h
    unfold uO at h;(conv=>whnf);refine zI Tryz.call49 Tryz.func49 [95,1000000] ?_;(conv=>whnf);refine zI Tryz.call95 Tryz.func95 [141,1000000] ?_;(conv=>whnf);refine⟨fun hf=>absurd hf (by first|decide|simp),fun _=>?_⟩;conv=>whnf
    refine⟨fun hf=>absurd hf (by first|decide|simp),fun _=>?_⟩;conv=>whnf
    refine⟨Codec.one zu [(10:UInt8)],qp [(10:UInt8)],.inl rfl,?_⟩;(conv=>whnf);rw[show qp e++qp [(10:UInt8)]=qp (e++[(10:UInt8)])from Codec.append zu e [(10:UInt8)]];(conv=>whnf);obtain⟨C,h⟩:=qb h;refine⟨⟨Codec.wide zu (e++[(10:UInt8)]),kod C,qO C (by decide)⟩,?_⟩;(conv=>whnf);refine⟨⟨rfl,rfl,rfl⟩,?_⟩;(conv=>whnf);exact⟨((kwr .i64 (q+1)),(e++[(10:UInt8)])),h,wk [0,1,5] []⟩
   conv=>whnf
   apply ifc h<;>intro x h
   ·conv=>whnf
    refine bq h fun o Q h=>⟨_,(rM n _ _ Q),?_⟩;(conv=>whnf);obtain⟨P,h⟩:=qb h;refine⟨(kod P:((([32]:SS).length+o.length:Nat):Int)<=rY),?_⟩;(conv=>whnf);refine zI Tryz.call47 Tryz.func47 [95,1000000] ?_;(conv=>whnf);refine zI Tryz.call95 Tryz.func95 [141,1000000] ?_;(conv=>whnf);refine⟨fun hf=>absurd hf (by first|decide|simp),fun _=>?_⟩;conv=>whnf
    refine⟨fun hf=>absurd hf (by first|decide|simp),fun _=>?_⟩;conv=>whnf
    rw[show qp a++qp (([32]:SS)++o)=qp (a++(([32]:SS)++o))from Codec.append zu a (([32]:SS)++o)];(conv=>whnf);obtain⟨D,h⟩:=qb h;refine⟨⟨Codec.wide zu a,kod D,qO D (by decide)⟩,?_⟩;(conv=>whnf);refine⟨⟨rfl,rfl,rfl⟩,?_⟩;(conv=>whnf);exact⟨(a++(([32]:SS)++o)),h,wk [0,1,2,3,4] []⟩
   conv=>whnf
   exact⟨a,h,wk [0,1,2,3,3] []⟩
  conv=>whnf
  refine⟨fun hf=>absurd hf (by first|decide|simp),fun _=>?_⟩;conv=>whnf
  refine⟨fun hf=>absurd hf (by first|decide|simp),fun _=>?_⟩;conv=>whnf
  rw[show qp l++qp (([35,110]:SS)++w)=qp (l++(([35,110]:SS)++w))from Codec.append zu l (([35,110]:SS)++w)];conv=>whnf
  obtain⟨F,h⟩:=qb h;refine⟨⟨Codec.wide zu l,kod F,qO F (by decide)⟩,?_⟩;conv=>whnf
  refine⟨⟨rfl,rfl,rfl⟩,?_⟩;conv=>whnf
  refine qP.fn [46,47,52,20000036,20000070,1000000] (S:=Int×SS) (fun(t,a)=>[(1,.ptr 0 0),(3,.ptr 1 0),(4,.clo 46 (.cap (.ptr 1 0) (.cap0))),(6,.ptr 2 0),(13,.p (.sl (Node.rows i))),(14,.p (.int .i64 ((Node.rows i).length:Int))),(15,pI q),(25,pT s),(26,.p (.int .i64 ((qi s).length:Int))),(27,pI t)]) (fun(t,a)=>[.box 29 [.p (.sl (Node.rows i)),.p (.sl (Edge.rows u))],.box 124 [.ptr 1 0,.tsl 3 (qp a)],.box 88 [pI L,pT s,pT y,pV z],.tail 5 1 (qp a).length]) (B:=fo n s y z K q) h (wk [0,1,3,4] []) ?_;intro b8 st h;obtain⟨t,a⟩:=st;unfold fo at h;conv=>whnf
  apply ifc h<;>intro x h
  ·conv=>whnf
   refine bq h fun c0 O h=>⟨_,Codec.at_ cV O,?_⟩;conv=>whnf
   refine bq h fun m N h=>⟨_,(mS n _ _ N),?_⟩;conv=>whnf
   obtain⟨M,h⟩:=qb h;refine⟨(kod M:((([58]:SS).length+m.length:Nat):Int)<=rY),?_⟩;conv=>whnf
   refine zI Tryz.call47 Tryz.func47 [95,1000000] ?_;conv=>whnf
   refine zI Tryz.call95 Tryz.func95 [141,1000000] ?_;conv=>whnf
   refine⟨fun hf=>absurd hf (by first|decide|simp),fun _=>?_⟩;conv=>whnf
   refine⟨fun hf=>absurd hf (by first|decide|simp),fun _=>?_⟩;conv=>whnf
   rw[show qp a++qp (([58]:SS)++m)=qp (a++(([58]:SS)++m))from Codec.append zu a (([58]:SS)++m)];conv=>whnf
   obtain⟨A,h⟩:=qb h;refine⟨⟨Codec.wide zu a,kod A,qO A (by decide)⟩,?_⟩;conv=>whnf
   refine⟨⟨rfl,rfl,rfl⟩,?_⟩;conv=>whnf
   exact⟨((kwr .i64 (t+1)),(a++(([58]:SS)++m))),h,wk [0,1,2,4] []⟩
  conv=>whnf
  refine zI Tryz.call46 Tryz.func46 [47,49,1000000] ?_;conv=>whnf
  refine gW.cut (S:=SS) (fun e=>[(2,.ptr 1 0)]) (fun e=>[.box 29 [.p (.sl (Node.rows i)),.p (.sl (Edge.rows u))],.box 124 [.ptr 1 0,.tsl 4 (qp e)],.box 88 [pI L,pT s,pT y,pV z],.dead,.tail 5 1 (qp e).length]) (uO n K q) (r:=r) ?_ ?_
  ·intro e h
   unfold uO at h;conv=>whnf
   refine zI Tryz.call49 Tryz.func49 [95,1000000] ?_;conv=>whnf
   refine zI Tryz.call95 Tryz.func95 [141,1000000] ?_;conv=>whnf
   refine⟨fun hf=>absurd hf (by first|decide|simp),fun _=>?_⟩;conv=>whnf
   refine⟨fun hf=>absurd hf (by first|decide|simp),fun _=>?_⟩;conv=>whnf
   refine⟨Codec.one zu [(10:UInt8)],qp [(10:UInt8)],.inl rfl,?_⟩;conv=>whnf
   rw[show qp e++qp [(10:UInt8)]=qp (e++[(10:UInt8)])from Codec.append zu e [(10:UInt8)]];conv=>whnf
   obtain⟨C,h⟩:=qb h;refine⟨⟨Codec.wide zu (e++[(10:UInt8)]),kod C,qO C (by decide)⟩,?_⟩;conv=>whnf
   refine⟨⟨rfl,rfl,rfl⟩,?_⟩;conv=>whnf
   exact⟨((kwr .i64 (q+1)),(e++[(10:UInt8)])),h,wk [0,1,5] []⟩
  conv=>whnf
  apply ifc h<;>intro x h
  ·conv=>whnf
   refine bq h fun o Q h=>⟨_,(rM n _ _ Q),?_⟩;conv=>whnf
   obtain⟨P,h⟩:=qb h;refine⟨(kod P:((([32]:SS).length+o.length:Nat):Int)<=rY),?_⟩;conv=>whnf
   refine zI Tryz.call47 Tryz.func47 [95,1000000] ?_;conv=>whnf
   refine zI Tryz.call95 Tryz.func95 [141,1000000] ?_;conv=>whnf
   refine⟨fun hf=>absurd hf (by first|decide|simp),fun _=>?_⟩;conv=>whnf
   refine⟨fun hf=>absurd hf (by first|decide|simp),fun _=>?_⟩;conv=>whnf
   rw[show qp a++qp (([32]:SS)++o)=qp (a++(([32]:SS)++o))from Codec.append zu a (([32]:SS)++o)];conv=>whnf
   obtain⟨D,h⟩:=qb h;refine⟨⟨Codec.wide zu a,kod D,qO D (by decide)⟩,?_⟩;conv=>whnf
   refine⟨⟨rfl,rfl,rfl⟩,?_⟩;conv=>whnf
   exact⟨(a++(([32]:SS)++o)),h,wk [0,1,2,3,4] []⟩
  conv=>whnf
  exact⟨a,h,wk [0,1,2,3,3] []⟩
 conv=>whnf
 refine qP.fn [46,47,52,20000036,20000070,1000000] (S:=Int×SS) (fun(G,b)=>[(3,.ptr 0 0),(4,.clo 46 (.cap (.ptr 0 0) (.cap0))),(44,.p (.sl (Edge.rows u))),(45,.p (.int .i64 ((Edge.rows u).length:Int))),(46,pI G)]) (fun(G,b)=>[.box 124 [.bself 0,.tsl 1 (qp b)],.tail 5 1 (qp b).length]) (B:=nF n u) h (wk [1,2] []) ?_;intro b9 st h;obtain⟨G,b⟩:=st;unfold nF at h;conv=>whnf
 apply ifc h<;>intro x h
 ·conv=>whnf
  refine bq h fun⟨V,W,X,Y,Z,a0⟩ b7 h=>⟨_,Codec.at_ zD b7,?_⟩;conv=>whnf
  refine bq h fun c b6 h=>⟨_,(gi n _ _ b6),?_⟩;conv=>whnf
  obtain⟨b5,h⟩:=qb h;refine⟨(kod b5:((([35,101]:SS).length+c.length:Nat):Int)<=rY),?_⟩;conv=>whnf
  obtain⟨b4,h⟩:=qb h;refine⟨(kod b4:(((([35,101]:SS)++c).length+([58]:SS).length:Nat):Int)<=rY),?_⟩;conv=>whnf
  refine bq h fun d b3 h=>⟨_,(mS n _ _ b3),?_⟩;conv=>whnf
  obtain⟨b2,h⟩:=qb h;refine⟨(kod b2:((((([35,101]:SS)++c)++([58]:SS)).length+d.length:Nat):Int)<=rY),?_⟩;conv=>whnf
  obtain⟨b1,h⟩:=qb h;refine⟨(kod b1:(((((([35,101]:SS)++c)++([58]:SS))++d).length+([32,35,110]:SS).length:Nat):Int)<=rY),?_⟩;conv=>whnf
  refine bq h fun f b0 h=>⟨_,(gi n _ _ b0),?_⟩;conv=>whnf
  obtain⟨a9,h⟩:=qb h;refine⟨(kod a9:((((((([35,101]:SS)++c)++([58]:SS))++d)++([32,35,110]:SS)).length+f.length:Nat):Int)<=rY),?_⟩;conv=>whnf
  obtain⟨a8,h⟩:=qb h;refine⟨(kod a8:(((((((([35,101]:SS)++c)++([58]:SS))++d)++([32,35,110]:SS))++f).length+([32,35,110]:SS).length:Nat):Int)<=rY),?_⟩;conv=>whnf
  refine bq h fun g a7 h=>⟨_,(gi n _ _ a7),?_⟩;conv=>whnf
  obtain⟨a6,h⟩:=qb h;refine⟨(kod a6:((((((((([35,101]:SS)++c)++([58]:SS))++d)++([32,35,110]:SS))++f)++([32,35,110]:SS)).length+g.length:Nat):Int)<=rY),?_⟩;conv=>whnf
  obtain⟨J,h⟩:=qb h;refine⟨.p (.tup [.int .i64 (((((((((([35,101]:SS)++c)++([58]:SS))++d)++([32,35,110]:SS))++f)++([32,35,110]:SS))++g).length:Nat):Int),.nili]),[.box 124 [.ptr 0 0,.tsl 3 (qp (b++(((((((([35,101]:SS)++c)++([58]:SS))++d)++([32,35,110]:SS))++f)++([32,35,110]:SS))++g)))],.dead,.box 86 [pI V,pI W,pI X,pS Y,pT Z,pV a0],.tail 5 1 (qp (b++(((((((([35,101]:SS)++c)++([58]:SS))++d)++([32,35,110]:SS))++f)++([32,35,110]:SS))++g))).length],?_,?_⟩
  ·conv=>whnf
   refine zI Tryz.call47 Tryz.func47 [95,1000000] ?_;conv=>whnf
   refine zI Tryz.call95 Tryz.func95 [141,1000000] ?_;conv=>whnf
   refine⟨?_,?_⟩
   ·conv=>whnf
    refine⟨fun _=>?_,fun hf=>absurd hf (by first|decide|simp)⟩;conv=>whnf
    refine⟨⟨by decide,by first|decide|exact Nat.zero_lt_succ _⟩,?_⟩;conv=>whnf
    refine vF.noEscape Tryz.func141 (by kernel_rfl) (by kernel_rfl) (by kernel_rfl) (by kernel_rfl) ?_;(conv=>whnf);refine⟨by kernel_rfl,?_⟩;(conv=>whnf);rw[show qp b++qp (((((((([35,101]:SS)++c)++([58]:SS))++d)++([32,35,110]:SS))++f)++([32,35,110]:SS))++g)=qp (b++(((((((([35,101]:SS)++c)++([58]:SS))++d)++([32,35,110]:SS))++f)++([32,35,110]:SS))++g))from Codec.append zu b (((((((([35,101]:SS)++c)++([58]:SS))++d)++([32,35,110]:SS))++f)++([32,35,110]:SS))++g)];(conv=>whnf);refine⟨⟨Codec.wide zu b,kod J,qO J (by decide)⟩,?_⟩;(conv=>whnf);refine⟨⟨rfl,rfl,rfl⟩,?_⟩;exact⟨rfl,rfl⟩
   conv=>whnf
   refine⟨fun hf=>absurd hf (by first|decide|simp),fun _=>?_⟩;conv=>whnf
   refine⟨fun hf=>absurd hf (by first|decide|simp),fun _=>?_⟩;conv=>whnf
   rw[show qp b++qp (((((((([35,101]:SS)++c)++([58]:SS))++d)++([32,35,110]:SS))++f)++([32,35,110]:SS))++g)=qp (b++(((((((([35,101]:SS)++c)++([58]:SS))++d)++([32,35,110]:SS))++f)++([32,35,110]:SS))++g))from Codec.append zu b (((((((([35,101]:SS)++c)++([58]:SS))++d)++([32,35,110]:SS))++f)++([32,35,110]:SS))++g)];conv=>whnf
   refine⟨⟨Codec.wide zu b,kod J,qO J (by decide)⟩,?_⟩;conv=>whnf
   refine⟨⟨rfl,rfl,rfl⟩,?_⟩;exact⟨rfl,rfl⟩
  conv=>whnf
  refine zI Tryz.call46 Tryz.func46 [47,49,1000000] ?_;conv=>whnf
  refine gW.cut (S:=SS) (fun v=>[(2,.ptr 0 0)]) (fun v=>[.box 124 [.ptr 0 0,.tsl 4 (qp v)],.dead,.box 86 [pI V,pI W,pI X,pS Y,pT Z,pV a0],.dead,.tail 5 1 (qp v).length]) (du n b9 G) (r:=r) ?_ ?_
  ·intro v h
   unfold du at h;conv=>whnf
   refine zI Tryz.call49 Tryz.func49 [95,1000000] ?_;conv=>whnf
   refine zI Tryz.call95 Tryz.func95 [141,1000000] ?_;conv=>whnf
   refine⟨fun hf=>absurd hf (by first|decide|simp),fun _=>?_⟩;conv=>whnf
   refine⟨fun hf=>absurd hf (by first|decide|simp),fun _=>?_⟩;conv=>whnf
   refine⟨Codec.one zu [(10:UInt8)],qp [(10:UInt8)],.inl rfl,?_⟩;conv=>whnf
   rw[show qp v++qp [(10:UInt8)]=qp (v++[(10:UInt8)])from Codec.append zu v [(10:UInt8)]];conv=>whnf
   obtain⟨R,h⟩:=qb h;refine⟨⟨Codec.wide zu (v++[(10:UInt8)]),kod R,qO R (by decide)⟩,?_⟩;conv=>whnf
   refine⟨⟨rfl,rfl,rfl⟩,?_⟩;conv=>whnf
   exact⟨((kwr .i64 (G+1)),(v++[(10:UInt8)])),h,wk [0,5] []⟩
  conv=>whnf
  apply ifc h<;>intro x h
  ·conv=>whnf
   refine bq h fun H a5 h=>⟨_,(rM n _ _ a5),?_⟩;conv=>whnf
   obtain⟨a4,h⟩:=qb h;refine⟨(kod a4:((([32]:SS).length+H.length:Nat):Int)<=rY),?_⟩;conv=>whnf
   refine zI Tryz.call47 Tryz.func47 [95,1000000] ?_;conv=>whnf
   refine zI Tryz.call95 Tryz.func95 [141,1000000] ?_;conv=>whnf
   refine⟨fun hf=>absurd hf (by first|decide|simp),fun _=>?_⟩;conv=>whnf
   refine⟨fun hf=>absurd hf (by first|decide|simp),fun _=>?_⟩;conv=>whnf
   rw[show qp (b++(((((((([35,101]:SS)++c)++([58]:SS))++d)++([32,35,110]:SS))++f)++([32,35,110]:SS))++g))++qp (([32]:SS)++H)=qp ((b++(((((((([35,101]:SS)++c)++([58]:SS))++d)++([32,35,110]:SS))++f)++([32,35,110]:SS))++g))++(([32]:SS)++H))from Codec.append zu (b++(((((((([35,101]:SS)++c)++([58]:SS))++d)++([32,35,110]:SS))++f)++([32,35,110]:SS))++g)) (([32]:SS)++H)];conv=>whnf
   obtain⟨U,h⟩:=qb h;refine⟨⟨Codec.wide zu (b++(((((((([35,101]:SS)++c)++([58]:SS))++d)++([32,35,110]:SS))++f)++([32,35,110]:SS))++g)),kod U,qO U (by decide)⟩,?_⟩;conv=>whnf
   refine⟨⟨rfl,rfl,rfl⟩,?_⟩;conv=>whnf
   exact⟨((b++(((((((([35,101]:SS)++c)++([58]:SS))++d)++([32,35,110]:SS))++f)++([32,35,110]:SS))++g))++(([32]:SS)++H)),h,wk [0,1,2,3,4] []⟩
  conv=>whnf
  exact⟨(b++(((((((([35,101]:SS)++c)++([58]:SS))++d)++([32,35,110]:SS))++f)++([32,35,110]:SS))++g)),h,wk [0,1,2,3,3] []⟩
 conv=>whnf
 refine vF.string_any (T:=124) (E:=5) MS ZI ZH (k:=0) (j:=1) (bs:=b) (n:=(qp b).length) rfl rfl ?_;obtain rfl:=sj h;conv=>whnf
 try exact oX
abbrev Dy (r:Graph×Int):PV:=PV.tup [PV.agg (vG.cells r.1),PV.int .i64 r.2]
def gh (n:Nat) (e:Graph) (i:Int):Option (Graph×Int):=
 match e with
 | ⟨f,a⟩=>
 bnd (za n a i) fun⟨c,j⟩=>
 bif(!j)then(
 some (Graph.mk ([]:List Node) ([]:List Edge),(23:Int)))
 else(
 bnd (rZ c) fun b=>
 bnd (rZ c) fun k=>
 chk (decide (b=k/\b<=(Edge.rows a).length)) (
 bnd (rZ (kwr .i64 (c+1))) fun d=>
 chk (decide (d<=(Edge.rows a).length)) (
 chk (decide ((Edge.rows ((a.take b)++(a.drop d))).length * 88<=140737488355328)) (
 bnd (xV n (Graph.mk f ((a.take b)++(a.drop d)))) fun⟨l,g⟩=>
 some (Graph.mk l g,(0:Int))))))
theorem ZE (n:Nat):∀ (d:Graph) (e:Int) (r:Graph×Int),gh n d e=some r->qc TP 59 [PV.agg (vG.cells d),PV.int .i64 e] (Dy r):=by
 intro d e r h;obtain⟨_,a⟩:=d;unfold gh at h;refine zN Tryz.call59 Tryz.func59 [1000000] ?_;conv=>whnf
 refine bq h fun⟨_,_⟩ o h=>⟨_,(xq n _ _ _ o),?_⟩;conv=>whnf
 apply ifc h<;>intro _ h
 ·obtain rfl:=sj h
  conv=>whnf
  try exact oX
 conv=>whnf
 refine bq h fun c m h=>⟨_,qM m,?_⟩;conv=>whnf
 refine bq h fun _ l h=>⟨_,qM l,?_⟩;conv=>whnf
 obtain⟨g,h⟩:=qb h;refine⟨⟨(kod g).1,(kod g).2,Codec.wide zD a⟩,?_⟩
 first|rw[show List.take c (Edge.rows a)=Edge.rows (a.take c)from Codec.take zD a c]|rw[show List.take c (zD.rows a)=Edge.rows (a.take c)from Codec.take zD a c]
 conv=>whnf
 refine bq h fun b k h=>⟨_,qM k,?_⟩;conv=>whnf
 obtain⟨j,h⟩:=qb h;refine⟨⟨(kod j:(b<=(Edge.rows a).length)),Nat.le_refl _,Codec.wide zD a⟩,?_⟩
 first|rw[show List.drop b (List.take ((Edge.rows a).length) (Edge.rows a))=Edge.rows (a.drop b)from Codec.dropAll zD a b]|rw[show List.drop b (List.take ((zD.rows a).length) (zD.rows a))=Edge.rows (a.drop b)from Codec.dropAll zD a b]
 conv=>whnf
 rw[show Edge.rows (a.take c)++Edge.rows (a.drop b)=Edge.rows ((a.take c)++(a.drop b))from Codec.append zD (a.take c) (a.drop b)];conv=>whnf
 obtain⟨f,h⟩:=qb h;refine⟨⟨Codec.wide zD ((a.take c)++(a.drop b)),kod f,qO f (by decide)⟩,?_⟩;refine⟨false,_,rfl,?_⟩;conv=>whnf
 refine bq h fun⟨_,_⟩ i h=>⟨_,(uN n _ _ i),?_⟩;obtain rfl:=sj h;conv=>whnf
 try exact oX
end W
end
section
set_option maxRecDepth 100000
set_option maxHeartbeats 20000000
open Go Go.Proofs Ax
namespace W
abbrev tV (r:List Edge):PV:=PV.sl (Edge.rows r)
def vR (n:Nat) (a:List Edge×Int->Option (List Edge)) (b:Int):List Edge->Option (List Edge):=fun c=>
 a (c,(kwr .i64 (b+1)))
def fI (n:Nat) (m:List Edge) (q p:Int) (s:SS):LK (List Edge×Int) (List Edge):=fun c (a,b)=>
 bif(decide (b<((Edge.rows m).length:Int)))then(
 bnd (idx m b) fun⟨v,d,e,f,t,u⟩=>
 bif(bif(bif(bif(q != 1)then(d==p)else false)then true else(bif(q != 0)then(e==p)else false))then(bif(s==([]:SS))then true else(f==s))else false)then(
 bnd (xD n (Edge.mk v d e f t u)) fun⟨g,i,j,k,l,o⟩=>
 chk (decide ((Edge.rows (a++[Edge.mk g i j k l o])).length * 88<=140737488355328)) (
 vR n c b (a++[Edge.mk g i j k l o])))
 else(
 vR n c b a))
 else(
 some a)
def ux (n:Nat) (a:Graph) (c d:Int) (e:SS):Option (List Edge):=
 match a with
 | ⟨_,b⟩=>
 qC (fI n b d c e) n (([]:List _),(0:Int))
theorem fJ (n:Nat):∀ (q:Graph) (i j:Int) (k:SS) (r:List Edge),ux n q i j k=some r->qc TP 60 [PV.agg (vG.cells q),PV.int .i64 i,PV.int .i64 j,PV.str k] (tV r):=by
 intro q i j k r h;obtain⟨_,m⟩:=q;unfold ux at h;refine zN Tryz.call60 Tryz.func60 [1000000] ?_;conv=>whnf
 refine qP.fn [1000000] (S:=List Edge×Int) (fun(a,l)=>[(1,pI i),(2,pI j),(3,pS k),(9,.tsl 0 (Edge.rows a)),(13,.p (.sl (Edge.rows m))),(14,.p (.int .i64 ((Edge.rows m).length:Int))),(15,pI l)]) (fun(a,l)=>[.tail 86 6 (Edge.rows a).length]) (B:=fI n m j i k) h (wk [0] [0]) ?_;intro w st h;obtain⟨a,l⟩:=st;unfold fI at h;conv=>whnf
 apply ifc h<;>intro v h
 ·conv=>whnf
  refine gW.cut (S:=List Edge) (fun o=>[(1,pI i),(2,pI j),(3,pS k),(9,.tsl 0 (Edge.rows o)),(13,.p (.sl (Edge.rows m))),(14,.p (.int .i64 ((Edge.rows m).length:Int))),(15,pI l)]) (fun o=>[.tail 86 6 (Edge.rows o).length]) (vR n w l) (r:=r) ?_ ?_
  ·intro o h
   unfold vR at h;conv=>whnf
   exact⟨(o,(kwr .i64 (l+1))),h,wk [0] []⟩
  conv=>whnf
  refine bq h fun⟨_,_,_,_,_,_⟩ u h=>⟨_,Codec.at_ zD u,?_⟩;conv=>whnf
  iterate 20 refine⟨id,?_⟩
  conv=>whnf
  apply ifc h<;>intro v h
  ·conv=>whnf
   refine bq h fun⟨b,c,d,e,f,g⟩ t h=>⟨_,(nG n _ _ t),?_⟩;conv=>whnf
   refine⟨Codec.one zD [Edge.mk b c d e f g],Edge.rows [Edge.mk b c d e f g],.inl rfl,?_⟩;conv=>whnf
   rw[show Edge.rows a++Edge.rows [Edge.mk b c d e f g]=Edge.rows (a++[Edge.mk b c d e f g])from Codec.append zD a [Edge.mk b c d e f g]];conv=>whnf
   obtain⟨s,h⟩:=qb h;refine⟨⟨Codec.wide zD (a++[Edge.mk b c d e f g]),kod s,qO s (by decide)⟩,?_⟩;conv=>whnf
   refine⟨⟨rfl,rfl,rfl⟩,?_⟩;conv=>whnf
   exact⟨(a++[Edge.mk b c d e f g]),h,wk [2] []⟩
  conv=>whnf
  exact⟨a,h,wk [0] []⟩
 obtain rfl:=sj h;conv=>whnf
 try exact oX
abbrev CX (r:Graph×Int):PV:=PV.tup [PV.agg (vG.cells r.1),PV.int .i64 r.2]
def uW (n:Nat) (g:Graph) (f:Int):Option (Graph×Int):=
 match g with
 | ⟨a,e⟩=>
 bnd (qK n a f) fun⟨c,k⟩=>
 bif(!k)then(
 some (Graph.mk ([]:List Node) ([]:List Edge),(23:Int)))
 else(
 bnd (ux n (Graph.mk a e) f (2:Int) ([]:SS)) fun l=>
 bif(decide (((Edge.rows l).length:Int)>0))then(
 some (Graph.mk ([]:List Node) ([]:List Edge),(5:Int)))
 else(
 bnd (rZ c) fun b=>
 bnd (rZ c) fun m=>
 chk (decide (b=m/\b<=(Node.rows a).length)) (
 bnd (rZ (kwr .i64 (c+1))) fun d=>
 chk (decide (d<=(Node.rows a).length)) (
 chk (decide ((Node.rows ((a.take b)++(a.drop d))).length * 80<=140737488355328)) (
 bnd (xV n (Graph.mk ((a.take b)++(a.drop d)) e)) fun⟨i,j⟩=>
 some (Graph.mk i j,(0:Int)))))))
theorem GQ (n:Nat):∀ (d:Graph) (e:Int) (r:Graph×Int),uW n d e=some r->qc TP 61 [PV.agg (vG.cells d),PV.int .i64 e] (CX r):=by
 intro d e r h;obtain⟨a,_⟩:=d;unfold uW at h;refine zN Tryz.call61 Tryz.func61 [1000000] ?_;conv=>whnf
 refine bq h fun⟨_,_⟩ p h=>⟨_,(zj n _ _ _ p),?_⟩;conv=>whnf
 apply ifc h<;>intro q h
 ·obtain rfl:=sj h
  conv=>whnf
  try exact oX
 conv=>whnf
 refine bq h fun _ o h=>⟨_,(fJ n _ _ _ _ _ o),?_⟩;conv=>whnf
 apply ifc h<;>intro q h
 ·obtain rfl:=sj h
  conv=>whnf
  try exact oX
 conv=>whnf
 refine bq h fun c m h=>⟨_,qM m,?_⟩;conv=>whnf
 refine bq h fun _ l h=>⟨_,qM l,?_⟩;conv=>whnf
 obtain⟨g,h⟩:=qb h;refine⟨⟨(kod g).1,(kod g).2,Codec.wide zL a⟩,?_⟩
 first|rw[show List.take c (Node.rows a)=Node.rows (a.take c)from Codec.take zL a c]|rw[show List.take c (zL.rows a)=Node.rows (a.take c)from Codec.take zL a c]
 conv=>whnf
 refine bq h fun b k h=>⟨_,qM k,?_⟩;conv=>whnf
 obtain⟨j,h⟩:=qb h;refine⟨⟨(kod j:(b<=(Node.rows a).length)),Nat.le_refl _,Codec.wide zL a⟩,?_⟩
 first|rw[show List.drop b (List.take ((Node.rows a).length) (Node.rows a))=Node.rows (a.drop b)from Codec.dropAll zL a b]|rw[show List.drop b (List.take ((zL.rows a).length) (zL.rows a))=Node.rows (a.drop b)from Codec.dropAll zL a b]
 conv=>whnf
 rw[show Node.rows (a.take c)++Node.rows (a.drop b)=Node.rows ((a.take c)++(a.drop b))from Codec.append zL (a.take c) (a.drop b)];conv=>whnf
 obtain⟨f,h⟩:=qb h;refine⟨⟨Codec.wide zL ((a.take c)++(a.drop b)),kod f,qO f (by decide)⟩,?_⟩;refine⟨false,_,rfl,?_⟩;conv=>whnf
 refine bq h fun⟨_,_⟩ i h=>⟨_,(uN n _ _ i),?_⟩;obtain rfl:=sj h;conv=>whnf
 try exact oX
abbrev nM (_:List Node) (_:List Edge) (_ _:Int) (_:List SS) (_:List Val) (_:Int) (_:Bool) (_:Int) (_:SS) (_:List Val) (_:List SS) (r:Int×(List Node)×(List Edge)):FV:=.p (.int .i64 r.1)
abbrev ZY (_:List Node) (_:List Edge) (c d:Int) (a:List SS) (b:List Val) (e:Int) (f:Bool) (g:Int) (i:SS) (j:List Val) (k:List SS) (r:Int×(List Node)×(List Edge)):List AObj:=[.box 79 [.p (.sl (Node.rows r.2.1)),.p (.sl (Edge.rows r.2.2)),pI c,pI d,.tsl 1 (qi a),.tsl 2 (Val.rows b),pI e,pB f,pI g,pS i,pV j,pT k],.tail 9 1 (qi a).length,.tail 35 6 (Val.rows b).length]
def xw (n:Nat):List Node×List Edge->Option (Int×(List Node)×(List Edge)):=fun(a,b)=>
 some ((0:Int),a,b)
def xy (n:Nat):List Node×List Edge->Option (Int×(List Node)×(List Edge)):=fun(a,b)=>
 some ((0:Int),a,b)
def zV (n:Nat) (f:Int):List Node×List Edge->Option (Int×(List Node)×(List Edge)):=fun(a,b)=>
 bnd (uW n (Graph.mk a b) f) fun⟨⟨d,e⟩,c⟩=>
 bif(c==0)then(
 xy n (d,e))
 else(
 bif(c==5)then(
 some (c,a,b))
 else(
 xy n (a,b)))
def xU (n:Nat) (b:List Edge) (f:Int):LK (Int×List Node×List Edge) (Int×(List Node)×(List Edge)):=fun e (a,c,d)=>
 bif(decide (a<((Edge.rows b).length:Int)))then(
 bnd (idx b a) fun⟨g,_,_,_,_,_⟩=>
 bnd (gh n (Graph.mk c d) g) fun⟨⟨i,j⟩,_⟩=>
 e ((kwr .i64 (a+1)),i,j))
 else(
 zV n f (c,d))
def ve (n:Nat) (d:Val) (k:Bool) (a:List Node) (b:List Edge) (_ _:Int) (_:List SS) (_:List Val) (_:Int) (_:Bool) (_:Int) (_:SS) (_:List Val) (_:List SS):Option (Int×(List Node)×(List Edge)):=
 match d with
 | ⟨e,_,c,_,_,_⟩=>
 bif(e==7)then(
 bnd (gh n (Graph.mk a b) c) fun⟨⟨f,g⟩,i⟩=>
 bif(i==0)then(
 xw n (f,g))
 else(
 xw n (a,b)))
 else(
 bif k then(
 bnd (ux n (Graph.mk a b) c (2:Int) ([]:SS)) fun j=>
 qC (xU n j c) n ((0:Int),a,b))
 else(
 zV n c (a,b)))
theorem Zp (n:Nat):∀ (q:Val) (F:Bool) (l:List Node) (m:List Edge) (c d:Int) (a:List SS) (b:List Val) (e:Int) (f:Bool) (g:Int) (i:SS) (j:List Val) (k:List SS) (r:Int×(List Node)×(List Edge)),ve n q F l m c d a b e f g i j k=some r->qS TP 26 [.ptr 0 0,.p (PV.agg (xZ.cells q)),.p (PV.bool F)] [.box 79 [.p (.sl (Node.rows l)),.p (.sl (Edge.rows m)),pI c,pI d,.tsl 1 (qi a),.tsl 2 (Val.rows b),pI e,pB f,pI g,pS i,pV j,pT k],.tail 9 1 (qi a).length,.tail 35 6 (Val.rows b).length] 1 (fun v lo=>v=nM l m c d a b e f g i j k r/\lo=ZY l m c d a b e f g i j k r):=by
 intro q F l m c d a b e f g i j k r h;obtain⟨G,H,u,I,J,K⟩:=q;unfold ve at h;refine zO Tryz.call26 Tryz.func26 [40000002,40000012,1000000] ?_;conv=>whnf
 apply ifc h<;>intro o h
 ·conv=>whnf
  refine gW.cut (S:=List Node×List Edge) (fun(z,A)=>[]) (fun(z,A)=>[.box 79 [.p (.sl (Node.rows z)),.p (.sl (Edge.rows A)),pI c,pI d,.tsl 1 (qi a),.tsl 2 (Val.rows b),pI e,pB f,pI g,pS i,pV j,pT k],.tail 9 1 (qi a).length,.tail 35 6 (Val.rows b).length]) (xw n) (r:=r) ?_ ?_
  ·intro st h
   obtain⟨z,A⟩:=st;unfold xw at h;obtain rfl:=sj h;conv=>whnf
   refine⟨_,_,⟨rfl,rfl⟩,wk [0,1,2] []⟩
  conv=>whnf
  refine bq h fun⟨⟨Q,R⟩,_⟩ L h=>⟨_,(ZE n _ _ _ L),?_⟩;conv=>whnf
  apply ifc h<;>intro o h
  ·conv=>whnf
   exact⟨(Q,R),h,wk [0,1,2] []⟩
  conv=>whnf
  exact⟨(l,m),h,wk [0,1,2] []⟩
 conv=>whnf
 refine gW.cut (S:=List Node×List Edge) (fun(s,t)=>[(0,.ptr 0 0),(4,.ptr 1 0)]) (fun(s,t)=>[.box 79 [.p (.sl (Node.rows s)),.p (.sl (Edge.rows t)),pI c,pI d,.tsl 2 (qi a),.tsl 3 (Val.rows b),pI e,pB f,pI g,pS i,pV j,pT k],.box 35 [pI G,pB H,pI u,pS I,pV J,pT K],.tail 9 1 (qi a).length,.tail 35 6 (Val.rows b).length]) (zV n u) (r:=r) ?_ ?_
 ·intro st h
  obtain⟨s,t⟩:=st;unfold zV at h;conv=>whnf
  refine bq h fun⟨⟨T,U⟩,_⟩ M h=>⟨_,(GQ n _ _ _ M),?_⟩;conv=>whnf
  refine gW.cut (S:=List Node×List Edge) (fun(C,D)=>[]) (fun(C,D)=>[.box 79 [.p (.sl (Node.rows C)),.p (.sl (Edge.rows D)),pI c,pI d,.tsl 1 (qi a),.tsl 2 (Val.rows b),pI e,pB f,pI g,pS i,pV j,pT k],.tail 9 1 (qi a).length,.tail 35 6 (Val.rows b).length]) (xy n) (r:=r) ?_ ?_
  ·intro st h
   obtain⟨C,D⟩:=st;unfold xy at h;obtain rfl:=sj h;conv=>whnf
   refine⟨_,_,⟨rfl,rfl⟩,wk [0,1,2] []⟩
  conv=>whnf
  apply ifc h<;>intro o h
  ·conv=>whnf
   exact⟨(T,U),h,wk [0,2,3] []⟩
  conv=>whnf
  apply ifc h<;>intro o h
  ·obtain rfl:=sj h
   conv=>whnf
   refine⟨_,_,⟨rfl,rfl⟩,wk [0,2,3] []⟩
  conv=>whnf
  exact⟨(s,t),h,wk [0,2,3] []⟩
 conv=>whnf
 apply ifc h<;>intro o h
 ·conv=>whnf
  refine bq h fun E P h=>⟨_,(fJ n _ _ _ _ _ P),?_⟩;conv=>whnf
  refine qP.fn [40000002,40000012,1000000] (S:=Int×List Node×List Edge) (fun(w,x,y)=>[(0,.ptr 0 0),(4,.ptr 1 0),(42,.p (.sl (Edge.rows E))),(43,.p (.int .i64 ((Edge.rows E).length:Int))),(44,pI w)]) (fun(w,x,y)=>[.box 79 [.p (.sl (Node.rows x)),.p (.sl (Edge.rows y)),pI c,pI d,.tsl 2 (qi a),.tsl 3 (Val.rows b),pI e,pB f,pI g,pS i,pV j,pT k],.box 35 [pI G,pB H,pI u,pS I,pV J,pT K],.tail 9 1 (qi a).length,.tail 35 6 (Val.rows b).length]) (B:=xU n E u) h (wk [0,3,1,2] []) ?_;intro _ st h;obtain⟨w,x,y⟩:=st;unfold xU at h;conv=>whnf
  apply ifc h<;>intro o h
  ·conv=>whnf
   refine bq h fun⟨_,_,_,_,_,_⟩ O h=>⟨_,Codec.at_ zD O,?_⟩;conv=>whnf
   refine bq h fun⟨⟨V,W⟩,_⟩ N h=>⟨_,(ZE n _ _ _ N),?_⟩;conv=>whnf
   exact⟨((kwr .i64 (w+1)),V,W),h,wk [0,1,2,3] []⟩
  conv=>whnf
  exact⟨(x,y),h,wk [0,1,2,3] []⟩
 conv=>whnf
 exact⟨(l,m),h,wk [0,3,1,2] []⟩
abbrev UR (r:State×Int):PV:=PV.tup [PV.agg (mH.cells r.1),PV.int .i64 r.2]
def xm (n:Nat) (b:Int×List Node×List Edge×List Val×List SS->Option (State×Int)) (c:Int) (d:List Val) (e:List SS):Int×List Node×List Edge->Option (State×Int):=fun(a,f,g)=>
 bif(a != 0)then(
 some (State.mk (Graph.mk ([]:List Node) ([]:List Edge)) (cG.mk (0:Int) (0:Int)),a))
 else(
 b ((kwr .i64 (c+1)),f,g,d,e))
def xI (n:Nat) (c:Int) (i:Bool) (j:Int) (l:SS) (m:List Val) (o:List SS) (k:Bool) (f:List Node) (g:List Edge) (w x:Int) (t:List SS) (v a:List Val) (b:List SS) (d:Int×List Node×List Edge×List Val×List SS->Option (State×Int)) (e:Int):Int->Option (State×Int):=fun p=>
 bif(bif(c==6)then true else(c==7))then(
 bnd (ve n (Val.mk c i j l m o) k f g w x t v (0:Int) false (0:Int) ([]:SS) a b) fun⟨q,s,u⟩=>
 xm n d e a b (q,s,u))
 else(
 xm n d e a b (p,f,g))
def vQ (n:Nat) (l:List SS) (d e:Int) (i:List SS) (j:List Val) (q:Bool):LK (Int×List Node×List Edge×List Val×List SS) (State×Int):=fun k (a,b,c,f,g)=>
 bif(decide (a<((qi l).length:Int)))then(
 bnd (idx l a) fun v=>
 bnd (zX n v b c d e i j (0:Int) false (0:Int) ([]:SS) f g) fun⟨⟨m,o,p,s,t,u⟩,w⟩=>
 bif w then(
 xI n m o p s t u q b c d e i j f g k a (3:Int))
 else(
 xI n m o p s t u q b c d e i j f g k a (2:Int)))
 else(
 some (State.mk (Graph.mk b c) (cG.mk d e),(0:Int)))
def xQ (n:Nat) (e:List SS) (g:Bool) (c:Env) (d:State):Option (State×Int):=
 match c,d with
 | ⟨a,b⟩,⟨⟨i,j⟩,⟨k,l⟩⟩=>
 bnd (xV n (Graph.mk i j)) fun⟨m,f⟩=>
 chk (decide ((qi a).length * 16<=140737488355328)) (
 chk (decide ((Val.rows b).length * 88<=140737488355328)) (
 qC (vQ n e k l a b g) n ((0:Int),m,f,([]:List _),([]:List _))))
theorem sy (n:Nat):∀ (c:List SS) (g:Bool) (m:Env) (o:State) (r:State×Int),xQ n c g m o=some r->qc TP 8 [PV.sl (qi c),PV.bool g,PV.agg (SV.cells m),PV.agg (mH.cells o)] (UR r):=by
 intro c g m o r h;obtain⟨a,b⟩:=m;obtain⟨⟨_,_⟩,⟨k,l⟩⟩:=o;unfold xQ at h;refine zN Tryz.call8 Tryz.func8 [24,25,26,1000000] ?_;conv=>whnf
 refine zI Tryz.call24 Tryz.func24 [56,57,30000018,30000020,40000002,86000056,86000057,1000000] ?_;conv=>whnf
 refine bq h fun⟨_,_⟩ M h=>⟨_,(uN n _ _ M),?_⟩;conv=>whnf
 obtain⟨L,h⟩:=qb h;refine⟨.tsl 6 (qi a),[.tail 9 1 (qi a).length],zz (bu a (kod L)) [] [] (by rintro _ _ ⟨rfl,rfl⟩; exact⟨_,_,rfl,rfl,rfl,rfl⟩),?_⟩;conv=>whnf
 obtain⟨K,h⟩:=qb h;refine⟨.tsl 7 (Val.rows b),[.tail 35 6 (Val.rows b).length],zz (Gw b (kod K)) [] [] (by rintro _ _ ⟨rfl,rfl⟩; exact⟨_,_,rfl,rfl,rfl,rfl⟩),?_⟩;conv=>whnf
 refine qP.fn [24,25,26,1000000] (S:=Int×List Node×List Edge×List Val×List SS) (fun(f,i,j,d,e)=>[(1,pB g),(8,.ptr 0 0),(10,.ptr 1 0),(20,pT c),(21,.p (.int .i64 ((qi c).length:Int))),(22,pI f)]) (fun(f,i,j,d,e)=>[zq8,.box 79 [.p (.sl (Node.rows i)),.p (.sl (Edge.rows j)),pI k,pI l,.tsl 2 (qi a),.tsl 3 (Val.rows b),zq0,pB false,zq0,zq1,pV d,pT e],.tail 9 1 (qi a).length,.tail 35 6 (Val.rows b).length]) (B:=vQ n c k l a b g) h (wk [2,8,6,7] []) ?_;intro D st h;obtain⟨f,i,j,d,e⟩:=st;unfold vQ at h;conv=>whnf
 apply ifc h<;>intro A h
 ·conv=>whnf
  refine bq h fun _ J h=>⟨_,Codec.at_ cV J,?_⟩;conv=>whnf
  refine bq h fun⟨⟨q,s,t,u,v,w⟩,N⟩ H h=>?_;refine zz (fj n _ _ _ _ _ _ _ _ _ _ _ _ _ _ H) [1,2,3] [] ?_;rintro _ _ ⟨rfl,rfl⟩;refine⟨.p (.tup [.agg [.int .i64 q,.bool s,.int .i64 t,.str u,.sl (Val.rows v),.sl (qi w)],.bool N]),[zq8,.box 79 [.p (.sl (Node.rows i)),.p (.sl (Edge.rows j)),pI k,pI l,.tsl 4 (qi a),.tsl 5 (Val.rows b),zq0,pB false,zq0,zq1,pV d,pT e],.dead,.dead,.tail 9 1 (qi a).length,.tail 35 6 (Val.rows b).length],rfl,rfl,?_⟩;conv=>whnf
  refine gW.cut (S:=Int) (fun x=>[(1,pB g),(8,.ptr 0 0),(10,.ptr 1 0),(13,.ptr 2 0),(15,pI x),(20,pT c),(21,.p (.int .i64 ((qi c).length:Int))),(22,pI f)]) (fun x=>[zq8,.box 79 [.p (.sl (Node.rows i)),.p (.sl (Edge.rows j)),pI k,pI l,.tsl 3 (qi a),.tsl 4 (Val.rows b),zq0,pB false,zq0,zq1,pV d,pT e],.box 35 [pI q,pB s,pI t,pS u,pV v,pT w],.tail 9 1 (qi a).length,.tail 35 6 (Val.rows b).length]) (xI n q s t u v w g i j k l a b d e D f) (r:=r) ?_ ?_
  ·intro x h
   unfold xI at h;conv=>whnf
   refine gW.cut (S:=Int×List Node×List Edge) (fun(C,y,z)=>[(1,pB g),(8,.ptr 0 0),(10,.ptr 1 0),(15,pI C),(20,pT c),(21,.p (.int .i64 ((qi c).length:Int))),(22,pI f)]) (fun(C,y,z)=>[zq8,.box 79 [.p (.sl (Node.rows y)),.p (.sl (Edge.rows z)),pI k,pI l,.tsl 2 (qi a),.tsl 3 (Val.rows b),zq0,pB false,zq0,zq1,pV d,pT e],.tail 9 1 (qi a).length,.tail 35 6 (Val.rows b).length]) (xm n D f d e) (r:=r) ?_ ?_
   ·intro st h
    obtain⟨C,y,z⟩:=st;unfold xm at h;(conv=>whnf);apply ifc h<;>intro A h
    ·obtain rfl:=sj h
     conv=>whnf
     try exact oX
    (conv=>whnf);exact⟨((kwr .i64 (f+1)),y,z,d,e),h,wk [0,1,2,3] []⟩
   conv=>whnf
   refine⟨id,?_⟩;conv=>whnf
   refine⟨id,id,?_⟩;conv=>whnf
   apply ifc h<;>intro A h
   ·conv=>whnf
    refine bq h fun⟨E,F,G⟩ I h=>?_;refine zz (Zp n _ _ _ _ _ _ _ _ _ _ _ _ _ _ _ I) [1,3,4] [] ?_;rintro _ _ ⟨rfl,rfl⟩;refine⟨pI E,[zq8,.box 79 [.p (.sl (Node.rows F)),.p (.sl (Edge.rows G)),pI k,pI l,.tsl 5 (qi a),.tsl 6 (Val.rows b),zq0,pB false,zq0,zq1,pV d,pT e],.box 35 [pI q,pB s,pI t,pS u,pV v,pT w],.dead,.dead,.tail 9 1 (qi a).length,.tail 35 6 (Val.rows b).length],rfl,rfl,?_⟩;(conv=>whnf);exact⟨(E,F,G),h,wk [0,1,5,6] []⟩
   conv=>whnf
   exact⟨(x,i,j),h,wk [0,1,3,4] []⟩
  conv=>whnf
  apply ifc h<;>intro A h
  ·conv=>whnf
   exact⟨(3:Int),h,wk [0,1,6,4,5] []⟩
  conv=>whnf
  exact⟨(2:Int),h,wk [0,1,6,4,5] []⟩
 obtain rfl:=sj h;conv=>whnf
 try exact oX
abbrev Fh (r:Int):PV:=PV.int .i64 r
def mv (n:Nat) (b:List Edge) (f:List Node):LK (Int) (Int):=fun k a=>
 bif(decide (a<((Edge.rows b).length:Int)))then(
 bnd (idx b a) fun⟨c,g,i,l,m,o⟩=>
 bnd (dw n (Edge.mk c g i l m o)) fun d=>
 bnd (qE ((!(!d))&&(decide (a>0))) (idx b (kwr .i64 (a - 1)))) fun⟨e,_,_,_,_,_⟩=>
 bnd (qE (!(bif(!d)then true else(bif(decide (a>0))then(decide (e≥c))else false))) (dZ n (Graph.mk f b) g)) fun j=>
 bnd (qE (!(bif(bif(!d)then true else(bif(decide (a>0))then(decide (e≥c))else false))then true else(!j))) (dZ n (Graph.mk f b) i)) fun p=>
 bif(bif(bif(bif(!d)then true else(bif(decide (a>0))then(decide (e≥c))else false))then true else(!j))then true else(!p))then(
 some (20:Int))
 else(
 k (kwr .i64 (a+1))))
 else(
 some (0:Int))
def mu (n:Nat) (b:List Node) (f:List Edge):LK (Int) (Int):=fun e a=>
 bif(decide (a<((Node.rows b).length:Int)))then(
 bnd (idx b a) fun⟨c,g,i,j⟩=>
 bnd (dx n (Node.mk c g i j)) fun d=>
 bnd (qE ((!(!d))&&(decide (a>0))) (idx b (kwr .i64 (a - 1)))) fun⟨k,_,_,_⟩=>
 bif(bif(!d)then true else(bif(decide (a>0))then(decide (k≥c))else false))then(
 some (20:Int))
 else(
 e (kwr .i64 (a+1))))
 else(
 qC (mv n f b) n (0:Int))
def tk (n:Nat) (c:Graph):Option (Int):=
 match c with
 | ⟨a,b⟩=>
 bif(bif(decide (((Node.rows a).length:Int)>4096))then true else(decide (((Edge.rows b).length:Int)>4096)))then(
 some (20:Int))
 else(
 qC (mu n a b) n (0:Int))
theorem Ut (n:Nat):∀ (d:Graph) (r:Int),tk n d=some r->qc TP 34 [PV.agg (vG.cells d)] (Fh r):=by
 intro d r h;obtain⟨b,c⟩:=d;unfold tk at h;refine zN Tryz.call34 Tryz.func34 [1000000] ?_;conv=>whnf
 refine⟨id,id,id,id,?_⟩;conv=>whnf
 apply ifc h<;>intro e h
 ·obtain rfl:=sj h
  conv=>whnf
  try exact oX
 conv=>whnf
 refine qP.fn [1000000] (S:=Int) (fun g=>[(1,.ptr 0 0),(18,.p (.sl (Node.rows b))),(19,.p (.int .i64 ((Node.rows b).length:Int))),(20,pI g)]) (fun g=>[.box 29 [.p (.sl (Node.rows b)),.p (.sl (Edge.rows c))]]) (B:=mu n b c) h (wk [0] []) ?_;intro _ g h;unfold mu at h;conv=>whnf
 apply ifc h<;>intro e h
 ·conv=>whnf
  refine bq h fun⟨_,_,_,_⟩ k h=>⟨_,Codec.at_ zL k,?_⟩;conv=>whnf
  refine bq h fun _ j h=>⟨_,(px n _ _ j),?_⟩;conv=>whnf
  iterate 6 refine⟨id,?_⟩
  conv=>whnf
  refine bq h fun⟨_,_,_,_⟩ i h=>⟨_,fun a=>Codec.at_ zL (qa i a),?_⟩;conv=>whnf
  iterate 8 refine⟨id,?_⟩
  conv=>whnf
  apply ifc h<;>intro e h
  ·obtain rfl:=sj h
   conv=>whnf
   try exact oX
  conv=>whnf
  exact⟨(kwr .i64 (g+1)),h,wk [0] []⟩
 conv=>whnf
 refine qP.fn [1000000] (S:=Int) (fun f=>[(1,.ptr 0 0),(46,.p (.sl (Edge.rows c))),(47,.p (.int .i64 ((Edge.rows c).length:Int))),(48,pI f)]) (fun f=>[.box 29 [.p (.sl (Node.rows b)),.p (.sl (Edge.rows c))]]) (B:=mv n c b) h (wk [0] []) ?_;intro _ f h;unfold mv at h;conv=>whnf
 apply ifc h<;>intro e h
 ·conv=>whnf
  refine bq h fun⟨_,_,_,_,_,_⟩ s h=>⟨_,Codec.at_ zD s,?_⟩;conv=>whnf
  refine bq h fun _ q h=>⟨_,(pw n _ _ q),?_⟩;conv=>whnf
  iterate 6 refine⟨id,?_⟩
  conv=>whnf
  refine bq h fun⟨_,_,_,_,_,_⟩ o h=>⟨_,fun a=>Codec.at_ zD (qa o a),?_⟩;conv=>whnf
  iterate 11 refine⟨id,?_⟩
  conv=>whnf
  refine bq h fun _ m h=>⟨_,fun a=>(bI n _ _ _ (qa m a)),?_⟩;conv=>whnf
  refine⟨id,id,id,id,id,?_⟩;conv=>whnf
  refine bq h fun _ l h=>⟨_,fun a=>(bI n _ _ _ (qa l a)),?_⟩;conv=>whnf
  refine⟨id,id,?_⟩;conv=>whnf
  apply ifc h<;>intro e h
  ·obtain rfl:=sj h
   conv=>whnf
   try exact oX
  conv=>whnf
  exact⟨(kwr .i64 (f+1)),h,wk [0] []⟩
 obtain rfl:=sj h;conv=>whnf
 try exact oX
abbrev Fg (r:Int):PV:=PV.int .i64 r
def tj (n:Nat) (f:State):Option (Int):=
 match f with
 | ⟨⟨a,c⟩,⟨b,d⟩⟩=>
 bnd (qE (!(!(bif((bif(decide (b≥1))then(decide (b<=4611686018427387904))else false)==true)then(bif((bif(decide (d≥1))then(decide (d<=4611686018427387904))else false)==true)then true else false)else false))) (tk n (Graph.mk a c))) fun i=>
 bif(bif(!(bif((bif(decide (b≥1))then(decide (b<=4611686018427387904))else false)==true)then(bif((bif(decide (d≥1))then(decide (d<=4611686018427387904))else false)==true)then true else false)else false))then true else(i != 0))then(
 some (20:Int))
 else(
 bnd (qE (decide (((Node.rows a).length:Int)>0)) (idx a (kwr .i64 (((Node.rows a).length:Int) - 1)))) fun⟨e,_,_,_⟩=>
 bnd (qE ((!(bif(decide (((Node.rows a).length:Int)>0))then(decide (e≥b))else false))&&(decide (((Edge.rows c).length:Int)>0))) (idx c (kwr .i64 (((Edge.rows c).length:Int) - 1)))) fun⟨g,_,_,_,_,_⟩=>
 bif(bif(bif(decide (((Node.rows a).length:Int)>0))then(decide (e≥b))else false)then true else(bif(decide (((Edge.rows c).length:Int)>0))then(decide (g≥d))else false))then(
 some (20:Int))
 else(
 some (0:Int)))
theorem Us (n:Nat):∀ (b:State) (r:Int),tj n b=some r->qc TP 13 [PV.agg (mH.cells b)] (Fg r):=by
 intro b r h;obtain⟨⟨_,_⟩,⟨_,_⟩⟩:=b;unfold tj at h;refine zN Tryz.call13 Tryz.func13 [1000000] ?_;conv=>whnf
 iterate 8 refine⟨id,?_⟩
 conv=>whnf
 refine⟨rfl,LG rfl,?_⟩;conv=>whnf
 refine⟨rfl,LG rfl,?_⟩;conv=>whnf
 refine⟨by kernel_rfl,?_⟩;conv=>whnf
 refine⟨id,id,?_⟩;conv=>whnf
 refine bq h fun _ e h=>⟨_,fun a=>(Ut n _ _ (qa e a)),?_⟩;conv=>whnf
 refine⟨id,id,?_⟩;conv=>whnf
 apply ifc h<;>intro f h
 ·obtain rfl:=sj h
  conv=>whnf
  try exact oX
 conv=>whnf
 refine⟨id,id,id,id,id,?_⟩;conv=>whnf
 refine bq h fun⟨_,_,_,_⟩ d h=>⟨_,fun a=>Codec.at_ zL (qa d a),?_⟩;conv=>whnf
 iterate 14 refine⟨id,?_⟩
 conv=>whnf
 refine bq h fun⟨_,_,_,_,_,_⟩ c h=>⟨_,fun a=>Codec.at_ zD (qa c a),?_⟩;conv=>whnf
 iterate 9 refine⟨id,?_⟩
 conv=>whnf
 apply ifc h<;>intro f h
 ·obtain rfl:=sj h
  conv=>whnf
  try exact oX
 obtain rfl:=sj h;conv=>whnf
 try exact oX
abbrev Dj (r:Bool):PV:=PV.bool r
def ct (n:Nat):Option (Bool):=
 bnd (ZQ n ([67,82,69,65,84,69,32,40,110,58,65,32,123,107,58,32,49,125,41,45,91,58,84,93,45,62,40,109,41]:SS)) fun⟨⟨f⟩,_,_⟩=>
 bif(((qy.rows f).length:Int) != 1)then(
 some false)
 else(
 bnd (idx f (0:Int)) fun⟨_,p,_,⟨_,_,⟨_,_,_,_,_,_⟩,_,_⟩,_,_,_,_,_,_,_,_,_⟩=>
 bnd (rJ n p (Env.mk ([]:List SS) ([]:List Val)) (State.mk (Graph.mk ([]:List Node) ([]:List Edge)) (cG.mk (1:Int) (1:Int))) (Val.mk (5:Int) false (0:Int) ([]:SS) ([]:List Val) ([]:List SS))) fun⟨⟨a,g⟩,⟨⟨b,c⟩,⟨d,e⟩⟩,i⟩=>
 bnd (qE (!(bif(i != 0)then true else(((qi a).length:Int) != 2))) (QE n (Graph.mk b c))) fun m=>
 bif(bif(bif(i != 0)then true else(((qi a).length:Int) != 2))then true else(!(m==([35,110,49,58,65,32,123,107,58,32,49,125,10,35,110,50,10,35,101,49,58,84,32,35,110,49,32,35,110,50,10]:SS))))then(
 some false)
 else(
 bnd (xQ n [([110]:SS)] false (Env.mk a g) (State.mk (Graph.mk b c) (cG.mk d e))) fun⟨⟨⟨_,_⟩,⟨_,_⟩⟩,j⟩=>
 bnd (xQ n [([110]:SS)] true (Env.mk a g) (State.mk (Graph.mk b c) (cG.mk d e))) fun⟨⟨⟨k,_⟩,⟨_,_⟩⟩,l⟩=>
 bnd (qE (bif(bif(j==5)then(l==0)else false)then(((Node.rows k).length:Int)==1)else false) (tj n (State.mk (Graph.mk b c) (cG.mk d e)))) fun o=>
 some (bif(bif(bif(j==5)then(l==0)else false)then(((Node.rows k).length:Int)==1)else false)then(o==0)else false)))
theorem Ci (n:Nat):∀ (r:Bool),ct n=some r->qc TP 6 [] (Dj r):=by
 intro r h;unfold ct at h;refine zN Tryz.call6 Tryz.func6 [1000000] ?_;conv=>whnf
 refine bq h fun⟨⟨_⟩,_,_⟩ i h=>⟨_,(Cv n _ _ i),?_⟩;conv=>whnf
 apply ifc h<;>intro j h
 ·obtain rfl:=sj h
  conv=>whnf
  try exact oX
 conv=>whnf
 refine bq h fun⟨_,_,_,⟨_,_,⟨_,_,_,_,_,_⟩,_,_⟩,_,_,_,_,_,_,_,_,_⟩ g h=>⟨_,Codec.at_ ub g,?_⟩;conv=>whnf
 refine bq h fun⟨⟨_,_⟩,⟨⟨_,_⟩,⟨_,_⟩⟩,_⟩ f h=>⟨_,(qc.leArgs (Vp n _ _ _ _ _ f) (by try exact oX)),?_⟩;conv=>whnf
 iterate 6 refine⟨id,?_⟩
 conv=>whnf
 refine bq h fun _ e h=>⟨_,fun a=>(GU n _ _ (qa e a)),?_⟩;conv=>whnf
 refine⟨id,id,?_⟩;conv=>whnf
 apply ifc h<;>intro j h
 ·obtain rfl:=sj h
  conv=>whnf
  try exact oX
 conv=>whnf
 refine⟨Codec.one cV [([110]:SS)],qi [([110]:SS)],.inl rfl,?_⟩;conv=>whnf
 refine bq h fun⟨⟨⟨_,_⟩,⟨_,_⟩⟩,_⟩ d h=>⟨_,(sy n _ _ _ _ _ d),?_⟩;conv=>whnf
 refine⟨Codec.one cV [([110]:SS)],qi [([110]:SS)],.inl rfl,?_⟩;conv=>whnf
 refine bq h fun⟨⟨⟨_,_⟩,⟨_,_⟩⟩,_⟩ c h=>⟨_,(sy n _ _ _ _ _ c),?_⟩;conv=>whnf
 iterate 8 refine⟨id,?_⟩
 conv=>whnf
 refine bq h fun _ b h=>⟨_,fun a=>(Us n _ _ (qa b a)),?_⟩;conv=>whnf
 refine⟨id,id,?_⟩;obtain rfl:=sj h;conv=>whnf
 try exact oX
abbrev pD (r:Val):PV:=PV.agg (xZ.cells r)
def uX (n:Nat) (j:List Val) (g146:Val->Option (Val)) (k:List SS) (m:Int) (u:Bool) (v:Int) (w:SS):LK (List Val×Int) (Val):=fun l (a,b)=>
 bif(decide (b<((Val.rows j).length:Int)))then(
 bnd (idx j b) fun⟨x,o,p,q,s,t⟩=>
 bnd (g146 (Val.mk x o p q s t)) fun⟨c,d,e,f,g,i⟩=>
 chk (decide ((Val.rows (a++[Val.mk c d e f g i])).length * 88<=140737488355328)) (
 l ((a++[Val.mk c d e f g i]),(kwr .i64 (b+1)))))
 else(
 chk (decide ((qi k).length * 16<=140737488355328)) (
 some (Val.mk m u v w a k)))
def sP (n:Nat) (g146:Val->Option (Val)) (a:Val):Option (Val):=
 match a with
 | ⟨b,c,d,e,f,g⟩=>
 qC (uX n f g146 g b c d e) n (([]:List _),(0:Int))
theorem Cf (n:Nat) (g146:Val->Option (Val)) (g146_ok:∀ (b r:Val),g146 b=some r->qc TP 146 [PV.agg (xZ.cells b)] (pD r)):∀ (b r:Val),sP n g146 b=some r->qc TP 146 [PV.agg (xZ.cells b)] (pD r):=by
 intro b r h;obtain⟨o,p,q,s,t,k⟩:=b;unfold sP at h;refine zN Tryz.call146 Tryz.func146 [1000000] ?_;conv=>whnf
 refine qP.fn [1000000] (S:=List Val×Int) (fun(a,j)=>[(1,.ptr 0 0),(2,.ptr 1 0),(3,.tsl 2 (Val.rows a)),(4,pI j)]) (fun(a,j)=>[.box 35 [pI o,pB p,pI q,pS s,pV t,pT k],.box 35 [zq0,pB false,zq0,zq1,zq2,zq2],.tail 35 6 (Val.rows a).length]) (B:=uX n t g146 k o p q s) h (wk [0,1,0] [2]) ?_;intro _ st h;obtain⟨a,j⟩:=st;unfold uX at h;conv=>whnf
 apply ifc h<;>intro _ h
 ·conv=>whnf
  refine bq h fun⟨_,_,_,_,_,_⟩ v h=>⟨_,Codec.at_ xZ v,?_⟩;conv=>whnf
  refine bq h fun⟨c,d,e,f,g,i⟩ u h=>⟨_,(g146_ok _ _ u),?_⟩;conv=>whnf
  refine⟨Codec.one xZ [Val.mk c d e f g i],Val.rows [Val.mk c d e f g i],.inl rfl,?_⟩;conv=>whnf
  rw[show Val.rows a++Val.rows [Val.mk c d e f g i]=Val.rows (a++[Val.mk c d e f g i])from Codec.append xZ a [Val.mk c d e f g i]];conv=>whnf
  obtain⟨l,h⟩:=qb h;refine⟨⟨Codec.wide xZ (a++[Val.mk c d e f g i]),kod l,qO l (by decide)⟩,?_⟩;conv=>whnf
  refine⟨⟨rfl,rfl,rfl⟩,?_⟩;conv=>whnf
  exact⟨((a++[Val.mk c d e f g i]),(kwr .i64 (j+1))),h,wk [0,1,3] []⟩
 conv=>whnf
 obtain⟨m,h⟩:=qb h;refine⟨⟨Codec.wide cV k,kod m,qO m (by decide)⟩,?_⟩;obtain rfl:=sj h;conv=>whnf
 try exact oX
def fA:Nat->Val->Option (Val)
 | 0=>fun _=>none
 | n+1=>sP n (fA n)
theorem Ck (n:Nat):(∀ (a r:Val),fA n a=some r->qc TP 146 [PV.agg (xZ.cells a)] (pD r)):=by
 induction n with
 | zero=>exact(by intros; rename_i h; cases h)
 | succ n ih=>
  have hg146:=ih;exact Cf n (fA n) hg146
theorem BQ (n:Nat):∀ (a r:Val),fA n a=some r->qc TP 146 [PV.agg (xZ.cells a)] (pD r):=(Ck n)
end W
end
section
set_option maxRecDepth 100000
set_option maxHeartbeats 20000000
open Go Go.Proofs Ax
namespace W
abbrev VA (r:List SS×List Val):PV:=PV.tup [PV.sl (qi r.1),PV.sl (Val.rows r.2)]
def gR (n:Nat) (j:List Val) (l:List SS):LK (List Val×Int) (List SS×List Val):=fun k (a,b)=>
 bif(decide (b<((Val.rows j).length:Int)))then(
 bnd (idx j b) fun⟨o,p,q,s,t,m⟩=>
 bnd (fA n (Val.mk o p q s t m)) fun⟨c,d,e,f,g,i⟩=>
 chk (decide ((Val.rows (a++[Val.mk c d e f g i])).length * 88<=140737488355328)) (
 k ((a++[Val.mk c d e f g i]),(kwr .i64 (b+1)))))
 else(
 some (l,a))
def uJ (n:Nat) (a:List SS) (b:List Val):Option (List SS×List Val):=
 chk (decide ((qi a).length * 16<=140737488355328)) (
 qC (gR n b a) n (([]:List _),(0:Int)))
theorem pn (n:Nat):∀ (b:List SS) (j:List Val) (r:List SS×List Val),uJ n b j=some r->qc TP 100 [PV.sl (qi b),PV.sl (Val.rows j)] (VA r):=by
 intro b j r h;unfold uJ at h;refine zN Tryz.call100 Tryz.func100 [1000000] ?_;conv=>whnf
 obtain⟨m,h⟩:=qb h;refine⟨⟨Codec.wide cV b,kod m,qO m (by decide)⟩,?_⟩;conv=>whnf
 refine qP.fn [1000000] (S:=List Val×Int) (fun(a,k)=>[(1,pV j),(6,.tsl 0 (qi b)),(7,.tsl 1 (Val.rows a)),(8,pI k)]) (fun(a,k)=>[.tail 9 1 (qi b).length,.tail 35 6 (Val.rows a).length]) (B:=gR n j b) h (wk [0,0] [1]) ?_;intro _ st h;obtain⟨a,k⟩:=st;unfold gR at h;conv=>whnf
 apply ifc h<;>intro _ h
 ·conv=>whnf
  refine bq h fun⟨_,_,_,_,_,_⟩ p h=>⟨_,Codec.at_ xZ p,?_⟩;conv=>whnf
  refine bq h fun⟨c,d,e,f,g,i⟩ o h=>⟨_,(BQ n _ _ o),?_⟩;conv=>whnf
  refine⟨Codec.one xZ [Val.mk c d e f g i],Val.rows [Val.mk c d e f g i],.inl rfl,?_⟩;conv=>whnf
  rw[show Val.rows a++Val.rows [Val.mk c d e f g i]=Val.rows (a++[Val.mk c d e f g i])from Codec.append xZ a [Val.mk c d e f g i]];conv=>whnf
  obtain⟨l,h⟩:=qb h;refine⟨⟨Codec.wide xZ (a++[Val.mk c d e f g i]),kod l,qO l (by decide)⟩,?_⟩;conv=>whnf
  refine⟨⟨rfl,rfl,rfl⟩,?_⟩;conv=>whnf
  exact⟨((a++[Val.mk c d e f g i]),(kwr .i64 (k+1))),h,wk [0,2] []⟩
 obtain rfl:=sj h;conv=>whnf
 try exact oX
abbrev UM (r:Node):PV:=PV.agg (zL.cells r)
def gG (n:Nat) (b:Node):Option (Node):=
 match b with
 | ⟨c,a,d,e⟩=>
 chk (decide ((qi a).length * 16<=140737488355328)) (
 bnd (uJ n d e) fun⟨f,g⟩=>
 some (Node.mk c a f g))
theorem sn (n:Nat):∀ (a r:Node),gG n a=some r->qc TP 53 [PV.agg (zL.cells a)] (UM r):=by
 intro a r h;obtain⟨_,d,_,_⟩:=a;unfold gG at h;refine zN Tryz.call53 Tryz.func53 [1000000] ?_;conv=>whnf
 obtain⟨b,h⟩:=qb h;refine⟨⟨Codec.wide cV d,kod b,qO b (by decide)⟩,?_⟩;conv=>whnf
 refine bq h fun⟨_,_⟩ c h=>⟨_,(pn n _ _ _ c),?_⟩;obtain rfl:=sj h;conv=>whnf
 try exact oX
abbrev UL (r:Edge):PV:=PV.agg (zD.cells r)
def uw (n:Nat) (a:Edge):Option (Edge):=
 match a with
 | ⟨b,c,d,e,f,g⟩=>
 bnd (uJ n f g) fun⟨i,j⟩=>
 some (Edge.mk b c d e i j)
theorem dU (n:Nat):∀ (a r:Edge),uw n a=some r->qc TP 54 [PV.agg (zD.cells a)] (UL r):=by
 intro a r h;obtain⟨_,_,_,_,_,_⟩:=a;unfold uw at h;refine zN Tryz.call54 Tryz.func54 [1000000] ?_;conv=>whnf
 refine bq h fun⟨_,_⟩ b h=>⟨_,(pn n _ _ _ b),?_⟩;obtain rfl:=sj h;conv=>whnf
 try exact oX
abbrev EK (r:Graph):PV:=PV.agg (vG.cells r)
def mM (n:Nat) (c:List Edge) (t:List Node):LK (Int×List Edge) (Graph):=fun k (a,b)=>
 bif(decide (a<((Edge.rows c).length:Int)))then(
 bnd (idx c a) fun⟨l,m,o,p,q,s⟩=>
 bnd (uw n (Edge.mk l m o p q s)) fun⟨d,e,f,g,i,j⟩=>
 chk (decide ((Edge.rows (b++[Edge.mk d e f g i j])).length * 88<=140737488355328)) (
 k ((kwr .i64 (a+1)),(b++[Edge.mk d e f g i j]))))
 else(
 some (Graph.mk t b))
def mL (n:Nat) (c:List Node) (j:List Edge):LK (Int×List Node) (Graph):=fun i (a,b)=>
 bif(decide (a<((Node.rows c).length:Int)))then(
 bnd (idx c a) fun⟨k,l,m,o⟩=>
 bnd (gG n (Node.mk k l m o)) fun⟨g,d,e,f⟩=>
 chk (decide ((Node.rows (b++[Node.mk g d e f])).length * 80<=140737488355328)) (
 i ((kwr .i64 (a+1)),(b++[Node.mk g d e f]))))
 else(
 qC (mM n j b) n ((0:Int),([]:List _)))
def dT (n:Nat) (a:Graph):Option (Graph):=
 match a with
 | ⟨b,c⟩=>
 qC (mL n b c) n ((0:Int),([]:List _))
theorem th (n:Nat):∀ (o r:Graph),dT n o=some r->qc TP 23 [PV.agg (vG.cells o)] (EK r):=by
 intro o r h;obtain⟨u,s⟩:=o;unfold dT at h;refine zN Tryz.call23 Tryz.func23 [1000000] ?_;conv=>whnf
 refine qP.fn [1000000] (S:=Int×List Node) (fun(t,a)=>[(1,.ptr 0 0),(2,.ptr 1 0),(3,.ptr 2 0),(4,pI t)]) (fun(t,a)=>[.box 29 [.p (.sl (Node.rows u)),.p (.sl (Edge.rows s))],.box 29 [zq2,zq2],.box 29 [.tsl 3 (Node.rows a),zq2],.tail 88 4 (Node.rows a).length]) (B:=mL n u s) h (wk [0,1,2,0] [3]) ?_;intro _ st h;obtain⟨t,a⟩:=st;unfold mL at h;conv=>whnf
 apply ifc h<;>intro C h
 ·conv=>whnf
  refine bq h fun⟨_,_,_,_⟩ y h=>⟨_,Codec.at_ zL y,?_⟩;conv=>whnf
  refine bq h fun⟨m,c,d,e⟩ x h=>⟨_,(sn n _ _ x),?_⟩;conv=>whnf
  refine⟨Codec.one zL [Node.mk m c d e],Node.rows [Node.mk m c d e],.inl rfl,?_⟩;conv=>whnf
  rw[show Node.rows a++Node.rows [Node.mk m c d e]=Node.rows (a++[Node.mk m c d e])from Codec.append zL a [Node.mk m c d e]];conv=>whnf
  obtain⟨v,h⟩:=qb h;refine⟨⟨Codec.wide zL (a++[Node.mk m c d e]),kod v,qO v (by decide)⟩,?_⟩;conv=>whnf
  refine⟨⟨rfl,rfl,rfl⟩,?_⟩;conv=>whnf
  exact⟨((kwr .i64 (t+1)),(a++[Node.mk m c d e])),h,wk [0,1,2,4] []⟩
 conv=>whnf
 refine qP.fn [1000000] (S:=Int×List Edge) (fun(q,b)=>[(1,.ptr 0 0),(2,.ptr 1 0),(3,.ptr 2 0),(5,pI q)]) (fun(q,b)=>[.box 29 [.p (.sl (Node.rows u)),.p (.sl (Edge.rows s))],.box 29 [zq2,zq2],.box 29 [.tsl 3 (Node.rows a),.tsl 4 (Edge.rows b)],.tail 88 4 (Node.rows a).length,.tail 86 6 (Edge.rows b).length]) (B:=mM n s a) h (wk [0,1,2,3,0] [4]) ?_;intro _ st h;obtain⟨q,b⟩:=st;unfold mM at h;conv=>whnf
 apply ifc h<;>intro C h
 ·conv=>whnf
  refine bq h fun⟨_,_,_,_,_,_⟩ A h=>⟨_,Codec.at_ zD A,?_⟩;conv=>whnf
  refine bq h fun⟨f,g,i,j,k,l⟩ z h=>⟨_,(dU n _ _ z),?_⟩;conv=>whnf
  refine⟨Codec.one zD [Edge.mk f g i j k l],Edge.rows [Edge.mk f g i j k l],.inl rfl,?_⟩;conv=>whnf
  rw[show Edge.rows b++Edge.rows [Edge.mk f g i j k l]=Edge.rows (b++[Edge.mk f g i j k l])from Codec.append zD b [Edge.mk f g i j k l]];conv=>whnf
  obtain⟨w,h⟩:=qb h;refine⟨⟨Codec.wide zD (b++[Edge.mk f g i j k l]),kod w,qO w (by decide)⟩,?_⟩;conv=>whnf
  refine⟨⟨rfl,rfl,rfl⟩,?_⟩;conv=>whnf
  exact⟨((kwr .i64 (q+1)),(b++[Edge.mk f g i j k l])),h,wk [0,1,2,3,5] []⟩
 obtain rfl:=sj h;conv=>whnf
 try exact oX
abbrev EO (r:State):PV:=PV.agg (mH.cells r)
def nc (n:Nat) (a:State):Option (State):=
 match a with
 | ⟨⟨b,c⟩,⟨d,e⟩⟩=>
 bnd (dT n (Graph.mk b c)) fun⟨f,g⟩=>
 some (State.mk (Graph.mk f g) (cG.mk d e))
theorem Dd (n:Nat):∀ (a r:State),nc n a=some r->qc TP 7 [PV.agg (mH.cells a)] (EO r):=by
 intro a r h;obtain⟨⟨_,_⟩,⟨_,_⟩⟩:=a;unfold nc at h;refine zN Tryz.call7 Tryz.func7 [1000000] ?_;conv=>whnf
 refine bq h fun⟨_,_⟩ b h=>⟨_,(th n _ _ b),?_⟩;obtain rfl:=sj h;conv=>whnf
 try exact oX
abbrev LF (r:Val×Bool):PV:=PV.tup [PV.agg (xZ.cells r.1),PV.bool r.2]
def pr (n:Nat) (b:List SS) (c:List Val) (d:SS):LK (Int) (Val×Bool):=fun e a=>
 bif(bif(decide (a<((qi b).length:Int)))then(decide (a<((Val.rows c).length:Int)))else false)then(
 bnd (idx b a) fun i=>
 bif(bif(i==d)then(!(d==([]:SS)))else false)then(
 bnd (idx c a) fun⟨j,k,l,m,f,g⟩=>
 some (Val.mk j k l m f g,true))
 else(
 e (kwr .i64 (a+1))))
 else(
 some (Val.mk (0:Int) false (0:Int) ([]:SS) ([]:List Val) ([]:List SS),false))
def Qz (n:Nat) (a:Env) (d:SS):Option (Val×Bool):=
 match a with
 | ⟨b,c⟩=>
 qC (pr n b c d) n (0:Int)
theorem Ey (n:Nat):∀ (b:Env) (a:SS) (r:Val×Bool),Qz n b a=some r->qc TP 27 [PV.agg (SV.cells b),PV.str a] (LF r):=by
 intro b a r h;obtain⟨d,e⟩:=b;unfold Qz at h;refine zN Tryz.call27 Tryz.func27 [1000000] ?_;conv=>whnf
 refine qP.fn [1000000] (S:=Int) (fun c=>[(1,pS a),(2,.ptr 0 0),(4,.ptr 1 0),(6,pI c)]) (fun c=>[.box 25 [pT d,pV e],.box 35 [zq0,pB false,zq0,zq1,zq2,zq2]]) (B:=pr n d e a) h (wk [0,1] []) ?_;intro _ c h;unfold pr at h;conv=>whnf
 refine⟨id,id,id,id,id,?_⟩;conv=>whnf
 apply ifc h<;>intro i h
 ·conv=>whnf
  refine bq h fun _ g h=>⟨_,Codec.at_ cV g,?_⟩;conv=>whnf
  refine⟨id,id,?_⟩;conv=>whnf
  apply ifc h<;>intro i h
  ·conv=>whnf
   refine bq h fun⟨_,_,_,_,_,_⟩ f h=>⟨_,Codec.at_ xZ f,?_⟩;obtain rfl:=sj h;conv=>whnf
   try exact oX
  conv=>whnf
  exact⟨(kwr .i64 (c+1)),h,wk [0,1] []⟩
 obtain rfl:=sj h;conv=>whnf
 try exact oX
abbrev CR (r:Int):PV:=PV.int .i64 r
def dh (n:Nat) (b:List Edge) (d:Int):LK (Int) (Int):=fun c a=>
 bif(decide (a<((Edge.rows b).length:Int)))then(
 bnd (idx b a) fun⟨e,_,_,_,_,_⟩=>
 bif(e==d)then(
 some a)
 else(
 c (kwr .i64 (a+1))))
 else(
 some (-1:Int))
def bV (n:Nat) (a:Graph) (c:Int):Option (Int):=
 match a with
 | ⟨_,b⟩=>
 qC (dh n b c) n (0:Int)
theorem GL (n:Nat):∀ (b:Graph) (a r:Int),bV n b a=some r->qc TP 62 [PV.agg (vG.cells b),PV.int .i64 a] (CR r):=by
 intro b a r h;obtain⟨g,d⟩:=b;unfold bV at h;refine zN Tryz.call62 Tryz.func62 [1000000] ?_;conv=>whnf
 refine qP.fn [1000000] (S:=Int) (fun c=>[(1,pI a),(2,.ptr 0 0),(5,pI c)]) (fun c=>[.box 29 [.p (.sl (Node.rows g)),.p (.sl (Edge.rows d))]]) (B:=dh n d a) h (wk [0] []) ?_;intro _ c h;unfold dh at h;conv=>whnf
 apply ifc h<;>intro f h
 ·conv=>whnf
  refine bq h fun⟨_,_,_,_,_,_⟩ e h=>⟨_,Codec.at_ zD e,?_⟩;conv=>whnf
  apply ifc h<;>intro f h
  ·obtain rfl:=sj h
   conv=>whnf
   try exact oX
  conv=>whnf
  exact⟨(kwr .i64 (c+1)),h,wk [0] []⟩
 obtain rfl:=sj h;conv=>whnf
 try exact oX
abbrev LB (r:Graph×Int):PV:=PV.tup [PV.agg (vG.cells r.1),PV.int .i64 r.2]
def cM (n:Nat) (a:Int×List Edge->Option (Graph×Int)) (b:Int):List Edge->Option (Graph×Int):=fun c=>
 a ((kwr .i64 (b+1)),c)
def ph (n:Nat) (c:List Edge) (u:Int) (v:List Node):LK (Int×List Edge) (Graph×Int):=fun d (a,b)=>
 bif(decide (a<((Edge.rows c).length:Int)))then(
 bnd (idx c a) fun⟨l,_,_,_,_,_⟩=>
 bif(l != u)then(
 bnd (idx c a) fun⟨m,o,p,q,s,t⟩=>
 bnd (uw n (Edge.mk m o p q s t)) fun⟨e,f,g,i,j,k⟩=>
 chk (decide ((Edge.rows (b++[Edge.mk e f g i j k])).length * 88<=140737488355328)) (
 cM n d a (b++[Edge.mk e f g i j k])))
 else(
 cM n d a b))
 else(
 some (Graph.mk v b,(0:Int)))
def so (n:Nat) (d:Graph) (c:Int):Option (Graph×Int):=
 match d with
 | ⟨b,a⟩=>
 bnd (bV n (Graph.mk b a) c) fun e=>
 bif(decide (e<0))then(
 some (Graph.mk ([]:List Node) ([]:List Edge),(23:Int)))
 else(
 bnd (dT n (Graph.mk b a)) fun⟨f,_⟩=>
 qC (ph n a c f) n ((0:Int),([]:List _)))
theorem VW (n:Nat):∀ (l:Graph) (i:Int) (r:Graph×Int),so n l i=some r->qc TP 28 [PV.agg (vG.cells l),PV.int .i64 i] (LB r):=by
 intro l i r h;obtain⟨t,m⟩:=l;unfold so at h;refine zN Tryz.call28 Tryz.func28 [1000000] ?_;conv=>whnf
 refine bq h fun _ y h=>⟨_,(GL n _ _ _ y),?_⟩;conv=>whnf
 apply ifc h<;>intro s h
 ·obtain rfl:=sj h
  conv=>whnf
  try exact oX
 conv=>whnf
 refine bq h fun⟨o,_⟩ x h=>⟨_,(th n _ _ x),?_⟩;conv=>whnf
 refine qP.fn [1000000] (S:=Int×List Edge) (fun(j,a)=>[(1,pI i),(2,.ptr 0 0),(4,.ptr 1 0),(6,.ptr 2 0),(7,pI j)]) (fun(j,a)=>[.box 29 [.p (.sl (Node.rows t)),.p (.sl (Edge.rows m))],.box 29 [zq2,zq2],.box 29 [.p (.sl (Node.rows o)),.tsl 3 (Edge.rows a)],.tail 86 6 (Edge.rows a).length]) (B:=ph n m i o) h (wk [0,1,2,0] [3]) ?_;intro z st h;obtain⟨j,a⟩:=st;unfold ph at h;conv=>whnf
 apply ifc h<;>intro s h
 ·conv=>whnf
  refine gW.cut (S:=List Edge) (fun k=>[(1,pI i),(2,.ptr 0 0),(4,.ptr 1 0),(6,.ptr 2 0),(7,pI j)]) (fun k=>[.box 29 [.p (.sl (Node.rows t)),.p (.sl (Edge.rows m))],.box 29 [zq2,zq2],.box 29 [.p (.sl (Node.rows o)),.tsl 3 (Edge.rows k)],.tail 86 6 (Edge.rows k).length]) (cM n z j) (r:=r) ?_ ?_
  ·intro k h
   unfold cM at h;conv=>whnf
   exact⟨((kwr .i64 (j+1)),k),h,wk [0,1,2,3] []⟩
  conv=>whnf
  refine bq h fun⟨_,_,_,_,_,_⟩ w h=>⟨_,Codec.at_ zD w,?_⟩;conv=>whnf
  apply ifc h<;>intro s h
  ·conv=>whnf
   refine bq h fun⟨_,_,_,_,_,_⟩ v h=>⟨_,Codec.at_ zD v,?_⟩;conv=>whnf
   refine bq h fun⟨b,c,d,e,f,g⟩ u h=>⟨_,(dU n _ _ u),?_⟩;conv=>whnf
   refine⟨Codec.one zD [Edge.mk b c d e f g],Edge.rows [Edge.mk b c d e f g],.inl rfl,?_⟩;conv=>whnf
   rw[show Edge.rows a++Edge.rows [Edge.mk b c d e f g]=Edge.rows (a++[Edge.mk b c d e f g])from Codec.append zD a [Edge.mk b c d e f g]];conv=>whnf
   obtain⟨q,h⟩:=qb h;refine⟨⟨Codec.wide zD (a++[Edge.mk b c d e f g]),kod q,qO q (by decide)⟩,?_⟩;conv=>whnf
   refine⟨⟨rfl,rfl,rfl⟩,?_⟩;conv=>whnf
   exact⟨(a++[Edge.mk b c d e f g]),h,wk [0,1,2,4] []⟩
  conv=>whnf
  exact⟨a,h,wk [0,1,2,3] []⟩
 obtain rfl:=sj h;conv=>whnf
 try exact oX
abbrev CQ (r:List Edge):PV:=PV.sl (Edge.rows r)
def ud (n:Nat) (a:List Edge×Int->Option (List Edge)) (b:Int):List Edge->Option (List Edge):=fun c=>
 a (c,(kwr .i64 (b+1)))
def gw (n:Nat) (k c:SS) (t m o:Int) (p:List SS) (q:List Val) (a:List Edge) (b:List Edge×Int->Option (List Edge)) (l:Int):Bool->Option (List Edge):=fun s=>
 bif(bif s then(bif(k==([]:SS))then true else(k==c))else false)then(
 bnd (uw n (Edge.mk t m o c p q)) fun⟨d,e,f,g,i,j⟩=>
 chk (decide ((Edge.rows (a++[Edge.mk d e f g i j])).length * 88<=140737488355328)) (
 ud n b l (a++[Edge.mk d e f g i j])))
 else(
 ud n b l a)
def gv (n:Nat) (o:Int) (g d:SS) (k c a:Int) (e:List SS) (f:List Val) (i:List Edge) (b:List Edge×Int->Option (List Edge)) (j m:Int):Bool->Option (List Edge):=fun l=>
 bif(o==1)then(
 gw n g d k c a e f i b j (a==m))
 else(
 gw n g d k c a e f i b j l)
def dg (n:Nat) (l:List Edge) (e:Int) (m:SS) (a:Int):LK (List Edge×Int) (List Edge):=fun g (f,c)=>
 bif(decide (c<((Edge.rows l).length:Int)))then(
 bnd (idx l c) fun⟨o,b,d,i,j,k⟩=>
 bif(e==0)then(
 gv n e m i o b d j k f g c a (b==a))
 else(
 gv n e m i o b d j k f g c a (bif(b==a)then true else(d==a))))
 else(
 some f)
def cL (n:Nat) (a:Graph) (c d:Int) (e:SS):Option (List Edge):=
 match a with
 | ⟨_,b⟩=>
 qC (dg n b d e c) n (([]:List _),(0:Int))
theorem Qv (n:Nat):∀ (t:Graph) (b e:Int) (c:SS) (r:List Edge),cL n t b e c=some r->qc TP 29 [PV.agg (vG.cells t),PV.int .i64 b,PV.int .i64 e,PV.str c] (CQ r):=by
 intro t b e c r h;obtain⟨u,q⟩:=t;unfold cL at h;refine zN Tryz.call29 Tryz.func29 [1000000] ?_;conv=>whnf
 refine qP.fn [1000000] (S:=List Edge×Int) (fun(a,d)=>[(1,pI b),(2,pI e),(3,pS c),(4,.ptr 0 0),(9,.tsl 1 (Edge.rows a)),(10,pI d)]) (fun(a,d)=>[.box 29 [.p (.sl (Node.rows u)),.p (.sl (Edge.rows q))],.tail 86 6 (Edge.rows a).length]) (B:=dg n q e c b) h (wk [0,0] [1]) ?_;intro C st h;obtain⟨a,d⟩:=st;unfold dg at h;conv=>whnf
 apply ifc h<;>intro A h
 ·conv=>whnf
  refine gW.cut (S:=List Edge) (fun s=>[(1,pI b),(2,pI e),(3,pS c),(4,.ptr 0 0),(9,.tsl 1 (Edge.rows s)),(10,pI d)]) (fun s=>[.box 29 [.p (.sl (Node.rows u)),.p (.sl (Edge.rows q))],.tail 86 6 (Edge.rows s).length]) (ud n C d) (r:=r) ?_ ?_
  ·intro s h
   unfold ud at h;conv=>whnf
   exact⟨(s,(kwr .i64 (d+1))),h,wk [0,1] []⟩
  conv=>whnf
  refine bq h fun⟨z,m,o,v,w,x⟩ G h=>⟨_,Codec.at_ zD G,?_⟩;conv=>whnf
  refine⟨id,id,id,id,?_⟩;conv=>whnf
  refine gW.cut (S:=Bool) (fun y=>[(1,pI b),(2,pI e),(3,pS c),(4,.ptr 0 0),(9,.tsl 1 (Edge.rows a)),(10,pI d),(11,.ptr 2 0),(12,pB y)]) (fun y=>[.box 29 [.p (.sl (Node.rows u)),.p (.sl (Edge.rows q))],.tail 86 6 (Edge.rows a).length,.box 86 [pI z,pI m,pI o,pS v,pT w,pV x]]) (gv n e c v z m o w x a C d b) (r:=r) ?_ ?_
  ·intro y h
   unfold gv at h;conv=>whnf
   refine gW.cut (S:=Bool) (fun D=>[(1,pI b),(2,pI e),(3,pS c),(4,.ptr 0 0),(9,.tsl 1 (Edge.rows a)),(10,pI d),(11,.ptr 2 0),(12,pB D)]) (fun D=>[.box 29 [.p (.sl (Node.rows u)),.p (.sl (Edge.rows q))],.tail 86 6 (Edge.rows a).length,.box 86 [pI z,pI m,pI o,pS v,pT w,pV x]]) (gw n c v z m o w x a C d) (r:=r) ?_ ?_
   ·intro D h
    unfold gw at h;conv=>whnf
    iterate 8 refine⟨id,?_⟩
    (conv=>whnf);apply ifc h<;>intro A h
    ·conv=>whnf
     refine bq h fun⟨f,g,i,j,k,l⟩ F h=>⟨_,(dU n _ _ F),?_⟩;(conv=>whnf);refine⟨Codec.one zD [Edge.mk f g i j k l],Edge.rows [Edge.mk f g i j k l],.inl rfl,?_⟩;(conv=>whnf);rw[show Edge.rows a++Edge.rows [Edge.mk f g i j k l]=Edge.rows (a++[Edge.mk f g i j k l])from Codec.append zD a [Edge.mk f g i j k l]];(conv=>whnf);obtain⟨E,h⟩:=qb h;refine⟨⟨Codec.wide zD (a++[Edge.mk f g i j k l]),kod E,qO E (by decide)⟩,?_⟩;(conv=>whnf);refine⟨⟨rfl,rfl,rfl⟩,?_⟩;(conv=>whnf);exact⟨(a++[Edge.mk f g i j k l]),h,wk [0,3] []⟩
    (conv=>whnf);exact⟨a,h,wk [0,1] []⟩
   conv=>whnf
   apply ifc h<;>intro A h
   ·conv=>whnf
    exact⟨(o==b),h,wk [0,1,2] []⟩
   conv=>whnf
   exact⟨y,h,wk [0,1,2] []⟩
  conv=>whnf
  apply ifc h<;>intro A h
  ·conv=>whnf
   exact⟨(m==b),h,wk [0,1,2] []⟩
  conv=>whnf
  exact⟨(bif(m==b)then true else(o==b)),h,wk [0,1,2] []⟩
 obtain rfl:=sj h;conv=>whnf
 try exact oX
abbrev EL (r:Graph×Int):PV:=PV.tup [PV.agg (vG.cells r.1),PV.int .i64 r.2]
def fF (n:Nat) (a:Int×List Node->Option (Graph×Int)) (c:Int):List Node->Option (Graph×Int):=fun b=>
 a ((kwr .i64 (c+1)),b)
def mN (n:Nat) (c:List Node) (p:Int) (q:List Edge):LK (Int×List Node) (Graph×Int):=fun d (a,b)=>
 bif(decide (a<((Node.rows c).length:Int)))then(
 bnd (idx c a) fun⟨j,_,_,_⟩=>
 bif(j != p)then(
 bnd (idx c a) fun⟨k,l,m,o⟩=>
 bnd (gG n (Node.mk k l m o)) fun⟨e,f,g,i⟩=>
 chk (decide ((Node.rows (b++[Node.mk e f g i])).length * 80<=140737488355328)) (
 fF n d a (b++[Node.mk e f g i])))
 else(
 fF n d a b))
 else(
 some (Graph.mk b q,(0:Int)))
def sq (n:Nat) (d:Graph) (c:Int):Option (Graph×Int):=
 match d with
 | ⟨a,b⟩=>
 bnd (uV n (Graph.mk a b) c) fun e=>
 bif(decide (e<0))then(
 some (Graph.mk ([]:List Node) ([]:List Edge),(23:Int)))
 else(
 bnd (cL n (Graph.mk a b) c (2:Int) ([]:SS)) fun f=>
 bif(decide (((Edge.rows f).length:Int)>0))then(
 some (Graph.mk ([]:List Node) ([]:List Edge),(5:Int)))
 else(
 bnd (dT n (Graph.mk a b)) fun⟨_,g⟩=>
 qC (mN n a c g) n ((0:Int),([]:List _))))
theorem Da (n:Nat):∀ (j:Graph) (f:Int) (r:Graph×Int),sq n j f=some r->qc TP 31 [PV.agg (vG.cells j),PV.int .i64 f] (EL r):=by
 intro j f r h;obtain⟨l,q⟩:=j;unfold sq at h;refine zN Tryz.call31 Tryz.func31 [1000000] ?_;conv=>whnf
 refine bq h fun _ x h=>⟨_,(dm n _ _ _ x),?_⟩;conv=>whnf
 apply ifc h<;>intro k h
 ·obtain rfl:=sj h
  conv=>whnf
  try exact oX
 conv=>whnf
 refine bq h fun _ w h=>⟨_,(Qv n _ _ _ _ _ w),?_⟩;conv=>whnf
 apply ifc h<;>intro k h
 ·obtain rfl:=sj h
  conv=>whnf
  try exact oX
 conv=>whnf
 refine bq h fun⟨_,m⟩ v h=>⟨_,(th n _ _ v),?_⟩;conv=>whnf
 refine qP.fn [1000000] (S:=Int×List Node) (fun(g,a)=>[(1,pI f),(2,.ptr 0 0),(4,.ptr 1 0),(6,.ptr 2 0),(7,pI g)]) (fun(g,a)=>[.box 29 [.p (.sl (Node.rows l)),.p (.sl (Edge.rows q))],.box 29 [zq2,zq2],.box 29 [.tsl 3 (Node.rows a),.p (.sl (Edge.rows m))],.tail 88 4 (Node.rows a).length]) (B:=mN n l f m) h (wk [0,1,2,0] [3]) ?_;intro y st h;obtain⟨g,a⟩:=st;unfold mN at h;conv=>whnf
 apply ifc h<;>intro k h
 ·conv=>whnf
  refine gW.cut (S:=List Node) (fun i=>[(1,pI f),(2,.ptr 0 0),(4,.ptr 1 0),(6,.ptr 2 0),(7,pI g)]) (fun i=>[.box 29 [.p (.sl (Node.rows l)),.p (.sl (Edge.rows q))],.box 29 [zq2,zq2],.box 29 [.tsl 3 (Node.rows i),.p (.sl (Edge.rows m))],.tail 88 4 (Node.rows i).length]) (fF n y g) (r:=r) ?_ ?_
  ·intro i h
   unfold fF at h;conv=>whnf
   exact⟨((kwr .i64 (g+1)),i),h,wk [0,1,2,3] []⟩
  conv=>whnf
  refine bq h fun⟨_,_,_,_⟩ u h=>⟨_,Codec.at_ zL u,?_⟩;conv=>whnf
  apply ifc h<;>intro k h
  ·conv=>whnf
   refine bq h fun⟨_,_,_,_⟩ t h=>⟨_,Codec.at_ zL t,?_⟩;conv=>whnf
   refine bq h fun⟨b,c,d,e⟩ s h=>⟨_,(sn n _ _ s),?_⟩;conv=>whnf
   refine⟨Codec.one zL [Node.mk b c d e],Node.rows [Node.mk b c d e],.inl rfl,?_⟩;conv=>whnf
   rw[show Node.rows a++Node.rows [Node.mk b c d e]=Node.rows (a++[Node.mk b c d e])from Codec.append zL a [Node.mk b c d e]];conv=>whnf
   obtain⟨o,h⟩:=qb h;refine⟨⟨Codec.wide zL (a++[Node.mk b c d e]),kod o,qO o (by decide)⟩,?_⟩;conv=>whnf
   refine⟨⟨rfl,rfl,rfl⟩,?_⟩;conv=>whnf
   exact⟨(a++[Node.mk b c d e]),h,wk [0,1,2,4] []⟩
  conv=>whnf
  exact⟨a,h,wk [0,1,2,3] []⟩
 obtain rfl:=sj h;conv=>whnf
 try exact oX
abbrev CV (r:State×Int):PV:=PV.tup [PV.agg (mH.cells r.1),PV.int .i64 r.2]
def vw (n:Nat) (a:Int×List Node×List Edge->Option (State×Int)) (d:Int):List Node×List Edge->Option (State×Int):=fun(b,c)=>
 a ((kwr .i64 (d+1)),b,c)
def dr (n:Nat) (e:List Edge) (i:Int) (d:Int×List Node×List Edge->Option (State×Int)) (f:Int):LK (Int×List Node×List Edge) (State×Int):=fun g (a,b,c)=>
 bif(decide (a<((Edge.rows e).length:Int)))then(
 bnd (idx e a) fun⟨j,_,_,_,_,_⟩=>
 bnd (so n (Graph.mk b c) j) fun⟨⟨k,l⟩,_⟩=>
 g ((kwr .i64 (a+1)),k,l))
 else(
 bnd (sq n (Graph.mk b c) i) fun⟨⟨m,o⟩,p⟩=>
 bif(p==0)then(
 vw n d f (m,o))
 else(
 vw n d f (b,c)))
def dq (n:Nat) (i s:List SS) (t:List Val) (j:Bool) (u v:Int):LK (Int×List Node×List Edge) (State×Int):=fun e (c,a,b)=>
 bif(decide (c<((qi i).length:Int)))then(
 bnd (idx i c) fun k=>
 bnd (Qz n (Env.mk s t) k) fun⟨⟨f,_,d,_,_,_⟩,l⟩=>
 bif(!l)then(
 some (State.mk (Graph.mk ([]:List Node) ([]:List Edge)) (cG.mk (0:Int) (0:Int)),(2:Int)))
 else(
 bif(bif(f != 6)then(f != 7)else false)then(
 some (State.mk (Graph.mk ([]:List Node) ([]:List Edge)) (cG.mk (0:Int) (0:Int)),(3:Int)))
 else(
 bif(f==7)then(
 bnd (so n (Graph.mk a b) d) fun⟨⟨m,o⟩,p⟩=>
 bif(p==0)then(
 vw n e c (m,o))
 else(
 vw n e c (a,b)))
 else(
 bnd (cL n (Graph.mk a b) d (2:Int) ([]:SS)) fun g=>
 bnd (qE (bif(decide (((Edge.rows g).length:Int)>0))then(!j)else false) (uV n (Graph.mk a b) d)) fun q=>
 bif(bif(bif(decide (((Edge.rows g).length:Int)>0))then(!j)else false)then(decide (q≥0))else false)then(
 some (State.mk (Graph.mk ([]:List Node) ([]:List Edge)) (cG.mk (0:Int) (0:Int)),(5:Int)))
 else(
 qC (dr n g d e c) n ((0:Int),a,b))))))
 else(
 some (State.mk (Graph.mk a b) (cG.mk u v),(0:Int)))
def cO (n:Nat) (c:List SS) (d:Bool) (a:Env) (b:State):Option (State×Int):=
 match a,b with
 | ⟨e,f⟩,⟨⟨g,i⟩,⟨j,k⟩⟩=>
 qC (dq n c e f d j k) n ((0:Int),g,i)
theorem GN (n:Nat):∀ (c:List SS) (d:Bool) (e:Env) (f:State) (r:State×Int),cO n c d e f=some r->qc TP 9 [PV.sl (qi c),PV.bool d,PV.agg (SV.cells e),PV.agg (mH.cells f)] (CV r):=by
 intro c d e f r h;obtain⟨q,s⟩:=e;obtain⟨⟨v,w⟩,⟨t,u⟩⟩:=f;unfold cO at h;refine zN Tryz.call9 Tryz.func9 [40000005,40000020,1000000] ?_;conv=>whnf
 refine qP.fn [40000005,40000020,1000000] (S:=Int×List Node×List Edge) (fun(a,g,i)=>[(0,pT c),(1,pB d),(6,.ptr 0 0),(7,.ptr 1 0),(8,.ptr 2 0),(10,.ptr 3 0),(11,pI a)]) (fun(a,g,i)=>[.box 25 [pT q,pV s],.box 33 [.p (.sl (Node.rows v)),.p (.sl (Edge.rows w)),pI t,pI u],zq8,.box 29 [.p (.sl (Node.rows g)),.p (.sl (Edge.rows i))]]) (B:=dq n c q s d t u) h (wk [0,1,2,3] []) ?_;intro x st h;obtain⟨a,g,i⟩:=st;unfold dq at h;conv=>whnf
 apply ifc h<;>intro b h
 ·conv=>whnf
  refine gW.cut (S:=List Node×List Edge) (fun(j,k)=>[(0,pT c),(1,pB d),(6,.ptr 0 0),(7,.ptr 1 0),(8,.ptr 2 0),(10,.ptr 3 0),(11,pI a)]) (fun(j,k)=>[.box 25 [pT q,pV s],.box 33 [.p (.sl (Node.rows v)),.p (.sl (Edge.rows w)),pI t,pI u],zq8,.box 29 [.p (.sl (Node.rows j)),.p (.sl (Edge.rows k))]]) (vw n x a) (r:=r) ?_ ?_
  ·intro st h
   obtain⟨j,k⟩:=st;unfold vw at h;conv=>whnf
   exact⟨((kwr .i64 (a+1)),j,k),h,wk [0,1,2,3] []⟩
  conv=>whnf
  refine bq h fun _ I h=>⟨_,Codec.at_ cV I,?_⟩;conv=>whnf
  refine bq h fun⟨⟨K,L,y,M,N,O⟩,_⟩ H h=>⟨_,(Ey n _ _ _ H),?_⟩;conv=>whnf
  apply ifc h<;>intro b h
  ·obtain rfl:=sj h
   conv=>whnf
   try exact oX
  conv=>whnf
  refine⟨id,id,id,?_⟩;conv=>whnf
  apply ifc h<;>intro b h
  ·obtain rfl:=sj h
   conv=>whnf
   try exact oX
  conv=>whnf
  apply ifc h<;>intro b h
  ·conv=>whnf
   refine bq h fun⟨⟨P,Q⟩,_⟩ A h=>⟨_,(VW n _ _ _ A),?_⟩;conv=>whnf
   refine gW.go ?_;conv=>whnf
   apply ifc h<;>intro b h
   ·conv=>whnf
    exact⟨(P,Q),h,wk [0,1,2,3] []⟩
   conv=>whnf
   exact⟨(g,i),h,wk [0,1,2,3] []⟩
  conv=>whnf
  refine bq h fun z G h=>⟨_,(Qv n _ _ _ _ _ G),?_⟩;conv=>whnf
  refine⟨id,id,id,id,id,?_⟩;conv=>whnf
  refine bq h fun _ F h=>⟨_,fun J=>(dm n _ _ _ (qa F J)),?_⟩;conv=>whnf
  refine⟨id,id,?_⟩;conv=>whnf
  apply ifc h<;>intro b h
  ·obtain rfl:=sj h
   conv=>whnf
   try exact oX
  conv=>whnf
  refine qP.fn [40000005,40000020,1000000] (S:=Int×List Node×List Edge) (fun(l,m,o)=>[(0,pT c),(1,pB d),(6,.ptr 0 0),(7,.ptr 1 0),(8,.ptr 2 0),(10,.ptr 3 0),(11,pI a),(12,.ptr 4 0),(16,.p (.sl (Edge.rows z))),(17,pI l)]) (fun(l,m,o)=>[.box 25 [pT q,pV s],.box 33 [.p (.sl (Node.rows v)),.p (.sl (Edge.rows w)),pI t,pI u],zq8,.box 29 [.p (.sl (Node.rows m)),.p (.sl (Edge.rows o))],.box 35 [pI K,pB L,pI y,pS M,pV N,pT O]]) (B:=dr n z y x a) h (wk [0,1,2,3,4] []) ?_;intro _ st h;obtain⟨l,m,o⟩:=st;unfold dr at h;conv=>whnf
  apply ifc h<;>intro b h
  ·conv=>whnf
   refine bq h fun⟨_,_,_,_,_,_⟩ D h=>⟨_,Codec.at_ zD D,?_⟩;conv=>whnf
   refine bq h fun⟨⟨R,T⟩,_⟩ C h=>⟨_,(VW n _ _ _ C),?_⟩;conv=>whnf
   exact⟨((kwr .i64 (l+1)),R,T),h,wk [0,1,2,3,4] []⟩
  conv=>whnf
  refine bq h fun⟨⟨U,V⟩,_⟩ E h=>⟨_,(Da n _ _ _ E),?_⟩;conv=>whnf
  apply ifc h<;>intro b h
  ·conv=>whnf
   exact⟨(U,V),h,wk [0,1,2,3] []⟩
  conv=>whnf
  exact⟨(m,o),h,wk [0,1,2,3] []⟩
 obtain rfl:=sj h;conv=>whnf
 try exact oX
abbrev UP (r:Bool):PV:=PV.bool r
def fY (n:Nat) (e f:Node):Option (Bool):=
 match e,f with
 | ⟨a,i,j,k⟩,⟨b,l,m,o⟩=>
 bnd (qE (a==b) (zF n i l)) fun c=>
 bnd (qE (bif(a==b)then c else false) (zF n j m)) fun d=>
 bnd (qE (bif(bif(a==b)then c else false)then d else false) (xP n k o)) fun g=>
 some (bif(bif(bif(a==b)then c else false)then d else false)then g else false)
theorem Vo (n:Nat):∀ (b c:Node) (r:Bool),fY n b c=some r->qc TP 35 [PV.agg (zL.cells b),PV.agg (zL.cells c)] (UP r):=by
 intro b c r h;obtain⟨_,_,_,_⟩:=b;obtain⟨_,_,_,_⟩:=c;unfold fY at h;refine zN Tryz.call35 Tryz.func35 [1000000] ?_;conv=>whnf
 refine⟨id,id,id,id,?_⟩;conv=>whnf
 refine bq h fun _ f h=>⟨_,fun a=>(zW n _ _ _ (qa f a)),?_⟩;conv=>whnf
 refine⟨id,id,id,id,id,?_⟩;conv=>whnf
 refine bq h fun _ e h=>⟨_,fun a=>(zW n _ _ _ (qa e a)),?_⟩;conv=>whnf
 refine⟨id,id,id,id,id,?_⟩;conv=>whnf
 refine bq h fun _ d h=>⟨_,fun a=>(sa n _ _ _ (qa d a)),?_⟩;conv=>whnf
 refine⟨id,?_⟩;obtain rfl:=sj h;conv=>whnf
 try exact oX
end W
end
section
set_option maxRecDepth 100000
set_option maxHeartbeats 20000000
open Go Go.Proofs Ax
namespace W
abbrev UO (r:Bool):PV:=PV.bool r
def fX (n:Nat) (k l:Edge):Option (Bool):=
 match k,l with
 | ⟨a,c,d,e,q,s⟩,⟨f,g,i,b,m,o⟩=>
 bnd (qE (bif(bif(bif(a==f)then(c==g)else false)then(d==i)else false)then(e==b)else false) (zF n q m)) fun j=>
 bnd (qE (bif(bif(bif(bif(a==f)then(c==g)else false)then(d==i)else false)then(e==b)else false)then j else false) (xP n s o)) fun p=>
 some (bif(bif(bif(bif(bif(a==f)then(c==g)else false)then(d==i)else false)then(e==b)else false)then j else false)then p else false)
theorem Vn (n:Nat):∀ (a b:Edge) (r:Bool),fX n a b=some r->qc TP 71 [PV.agg (zD.cells a),PV.agg (zD.cells b)] (UO r):=by
 intro a b r h;obtain⟨_,_,_,_,_,_⟩:=a;obtain⟨_,_,_,_,_,_⟩:=b;unfold fX at h;refine zN Tryz.call71 Tryz.func71 [1000000] ?_;conv=>whnf
 iterate 19 refine⟨id,?_⟩
 conv=>whnf
 refine bq h fun _ e h=>⟨_,fun c=>(zW n _ _ _ (qa e c)),?_⟩;conv=>whnf
 refine⟨id,id,id,id,id,?_⟩;conv=>whnf
 refine bq h fun _ d h=>⟨_,fun c=>(sa n _ _ _ (qa d c)),?_⟩;conv=>whnf
 refine⟨id,?_⟩;obtain rfl:=sj h;conv=>whnf
 try exact oX
abbrev Vz (r:Bool):PV:=PV.bool r
def um (n:Nat) (b l:List Edge):LK (Int) (Bool):=fun c a=>
 bif(decide (a<((Edge.rows b).length:Int)))then(
 bnd (idx b a) fun⟨m,o,p,q,s,t⟩=>
 bnd (idx l a) fun⟨d,e,f,g,i,j⟩=>
 bnd (fX n (Edge.mk m o p q s t) (Edge.mk d e f g i j)) fun k=>
 bif(!k)then(
 some false)
 else(
 c (kwr .i64 (a+1))))
 else(
 some true)
def fh (n:Nat) (a b:List Edge):Option (Bool):=
 bif(((Edge.rows a).length:Int) != ((Edge.rows b).length:Int))then(
 some false)
 else(
 qC (um n a b) n (0:Int))
theorem Xy (n:Nat):∀ (a b:List Edge) (r:Bool),fh n a b=some r->qc TP 36 [PV.sl (Edge.rows a),PV.sl (Edge.rows b)] (Vz r):=by
 intro a b r h;unfold fh at h;refine zN Tryz.call36 Tryz.func36 [1000000] ?_;conv=>whnf
 apply ifc h<;>intro d h
 ·obtain rfl:=sj h
  conv=>whnf
  try exact oX
 conv=>whnf
 refine qP.fn [1000000] (S:=Int) (fun c=>[(0,.p (.sl (Edge.rows a))),(1,.p (.sl (Edge.rows b))),(5,pI c)]) (fun c=>[]) (B:=um n a b) h (wk [] []) ?_;intro _ c h;unfold um at h;conv=>whnf
 apply ifc h<;>intro d h
 ·conv=>whnf
  refine bq h fun⟨_,_,_,_,_,_⟩ g h=>⟨_,Codec.at_ zD g,?_⟩;conv=>whnf
  refine bq h fun⟨_,_,_,_,_,_⟩ f h=>⟨_,Codec.at_ zD f,?_⟩;conv=>whnf
  refine bq h fun _ e h=>⟨_,(Vn n _ _ _ e),?_⟩;conv=>whnf
  apply ifc h<;>intro d h
  ·obtain rfl:=sj h
   conv=>whnf
   try exact oX
  conv=>whnf
  exact⟨(kwr .i64 (c+1)),h,wk [] []⟩
 obtain rfl:=sj h;conv=>whnf
 try exact oX
abbrev EN (r:Bool):PV:=PV.bool r
def fG (n:Nat) (b l:List Node) (k m:List Edge):LK (Int) (Bool):=fun c a=>
 bif(decide (a<((Node.rows b).length:Int)))then(
 bnd (idx b a) fun⟨o,p,q,s⟩=>
 bnd (idx l a) fun⟨d,e,f,g⟩=>
 bnd (fY n (Node.mk o p q s) (Node.mk d e f g)) fun i=>
 bif(!i)then(
 some false)
 else(
 c (kwr .i64 (a+1))))
 else(
 bnd (fh n k m) fun j=>
 some j)
def sw (n:Nat) (c d:Graph):Option (Bool):=
 match c,d with
 | ⟨a,e⟩,⟨b,f⟩=>
 bif(((Node.rows a).length:Int) != ((Node.rows b).length:Int))then(
 some false)
 else(
 qC (fG n a b e f) n (0:Int))
theorem Dc (n:Nat):∀ (a b:Graph) (r:Bool),sw n a b=some r->qc TP 14 [PV.agg (vG.cells a),PV.agg (vG.cells b)] (EN r):=by
 intro a b r h;obtain⟨e,f⟩:=a;obtain⟨g,i⟩:=b;unfold sw at h;refine zN Tryz.call14 Tryz.func14 [1000000] ?_;conv=>whnf
 apply ifc h<;>intro d h
 ·obtain rfl:=sj h
  conv=>whnf
  try exact oX
 conv=>whnf
 refine qP.fn [1000000] (S:=Int) (fun c=>[(2,.ptr 0 0),(3,.ptr 1 0),(5,pI c)]) (fun c=>[.box 29 [.p (.sl (Node.rows e)),.p (.sl (Edge.rows f))],.box 29 [.p (.sl (Node.rows g)),.p (.sl (Edge.rows i))]]) (B:=fG n e g f i) h (wk [0,1] []) ?_;intro _ c h;unfold fG at h;conv=>whnf
 apply ifc h<;>intro d h
 ·conv=>whnf
  refine bq h fun⟨_,_,_,_⟩ l h=>⟨_,Codec.at_ zL l,?_⟩;conv=>whnf
  refine bq h fun⟨_,_,_,_⟩ k h=>⟨_,Codec.at_ zL k,?_⟩;conv=>whnf
  refine bq h fun _ j h=>⟨_,(Vo n _ _ _ j),?_⟩;conv=>whnf
  apply ifc h<;>intro d h
  ·obtain rfl:=sj h
   conv=>whnf
   try exact oX
  conv=>whnf
  exact⟨(kwr .i64 (c+1)),h,wk [0,1] []⟩
 conv=>whnf
 refine bq h fun _ m h=>⟨_,(Xy n _ _ _ m),?_⟩;obtain rfl:=sj h;conv=>whnf
 try exact oX
abbrev EP (r:Bool):PV:=PV.bool r
def dW (n:Nat) (e f:State):Option (Bool):=
 match e,f with
 | ⟨⟨g,i⟩,⟨a,b⟩⟩,⟨⟨j,k⟩,⟨c,d⟩⟩=>
 bnd (qE (bif(a==c)then(bif(b==d)then true else false)else false) (sw n (Graph.mk g i) (Graph.mk j k))) fun l=>
 some (bif(bif(a==c)then(bif(b==d)then true else false)else false)then l else false)
theorem De (n:Nat):∀ (a b:State) (r:Bool),dW n a b=some r->qc TP 10 [PV.agg (mH.cells a),PV.agg (mH.cells b)] (EP r):=by
 intro a b r h;obtain⟨⟨_,_⟩,⟨_,_⟩⟩:=a;obtain⟨⟨_,_⟩,⟨_,_⟩⟩:=b;unfold dW at h;refine zN Tryz.call10 Tryz.func10 [1000000] ?_;conv=>whnf
 refine⟨by kernel_rfl,?_⟩;conv=>whnf
 refine⟨id,id,id,id,?_⟩;conv=>whnf
 refine bq h fun _ c h=>⟨_,fun d=>(Dc n _ _ _ (qa c d)),?_⟩;conv=>whnf
 refine⟨id,?_⟩;obtain rfl:=sj h;conv=>whnf
 try exact oX
end W
end
