/- A part of the proof: contracts, printed by program. -/
import Derived.Test.YtgbnebnnphdenaaGreatC
import Derived.Test.YtgbnebnnphdenaaGreatD
import Derived.Test.YtgbnebnnphdenaaGreatF
import Derived.Test.YtgbnebnnphdenaaGreatG
set_option linter.unusedVariables false
set_option linter.unusedSimpArgs false
set_option linter.unnecessarySimpa false
set_option linter.deprecated false
set_option linter.unusedSectionVars false
set_option linter.constructorNameAsVariable false
open Go.IntKind renaming wrap->kwr,bits->kbt
open BitVec renaming ofInt->jr
section
set_option maxRecDepth 100000
set_option maxHeartbeats 4000000
open Go Go.Proofs Ax
namespace W
abbrev Ek (r:SS):PV:=PV.str r
def mj (n:Nat) (b:SS) (a:Nat) (c:SS) (d:SS×Nat->Option SS):Bool->Option SS:=fun m=>
 bif m then(
 bnd (u8I (kwr .u8 (((jr (kbt .u8) (224:Int) ||| jr (kbt .u8) (kwr .u8 (Int.fdiv ((qI b a:Nat):Int) (2 ^ (min (Int.toNat (12:Int)) (kbt .i32)))))).toNat:Nat):Int))) fun k=>
 bnd (u8I (kwr .u8 (((jr (kbt .u8) (128:Int) ||| jr (kbt .u8) (kwr .u8 (((jr (kbt .u8) (kwr .u8 (Int.fdiv ((qI b a:Nat):Int) (2 ^ (min (Int.toNat (6:Int)) (kbt .i32))))) &&& jr (kbt .u8) (63:Int)).toNat:Nat):Int))).toNat:Nat):Int))) fun l=>
 bnd (u8I (kwr .u8 (((jr (kbt .u8) (128:Int) ||| jr (kbt .u8) (kwr .u8 (((jr (kbt .u8) (kwr .u8 ((qI b a:Nat):Int)) &&& jr (kbt .u8) (63:Int)).toNat:Nat):Int))).toNat:Nat):Int))) fun e=>
 chk (decide ((qx ((c++[(92:UInt8)])++[k,l,e])).length * 1<=140737488355328)) (
 d (((c++[(92:UInt8)])++[k,l,e]),(bif(decide (a<b.length))then zF b a else a))))
 else(
 bif(bif(decide ((kwr .u32 ((qI b a:Nat):Int))>65535))then(decide ((kwr .u32 ((qI b a:Nat):Int))<=1114111))else false)then(
 bnd (u8I (kwr .u8 (((jr (kbt .u8) (240:Int) ||| jr (kbt .u8) (kwr .u8 (Int.fdiv ((qI b a:Nat):Int) (2 ^ (min (Int.toNat (18:Int)) (kbt .i32)))))).toNat:Nat):Int))) fun f=>
 bnd (u8I (kwr .u8 (((jr (kbt .u8) (128:Int) ||| jr (kbt .u8) (kwr .u8 (((jr (kbt .u8) (kwr .u8 (Int.fdiv ((qI b a:Nat):Int) (2 ^ (min (Int.toNat (12:Int)) (kbt .i32))))) &&& jr (kbt .u8) (63:Int)).toNat:Nat):Int))).toNat:Nat):Int))) fun g=>
 bnd (u8I (kwr .u8 (((jr (kbt .u8) (128:Int) ||| jr (kbt .u8) (kwr .u8 (((jr (kbt .u8) (kwr .u8 (Int.fdiv ((qI b a:Nat):Int) (2 ^ (min (Int.toNat (6:Int)) (kbt .i32))))) &&& jr (kbt .u8) (63:Int)).toNat:Nat):Int))).toNat:Nat):Int))) fun i=>
 bnd (u8I (kwr .u8 (((jr (kbt .u8) (128:Int) ||| jr (kbt .u8) (kwr .u8 (((jr (kbt .u8) (kwr .u8 ((qI b a:Nat):Int)) &&& jr (kbt .u8) (63:Int)).toNat:Nat):Int))).toNat:Nat):Int))) fun j=>
 chk (decide ((qx ((c++[(92:UInt8)])++[f,g,i,j])).length * 1<=140737488355328)) (
 d (((c++[(92:UInt8)])++[f,g,i,j]),(bif(decide (a<b.length))then zF b a else a))))
 else(
 chk (decide ((qx ((c++[(92:UInt8)])++[(239:UInt8),(191:UInt8),(189:UInt8)])).length * 1<=140737488355328)) (
 d (((c++[(92:UInt8)])++[(239:UInt8),(191:UInt8),(189:UInt8)]),(bif(decide (a<b.length))then zF b a else a)))))
def uV (n:Nat) (b:SS) (a:Nat) (c:SS) (d:SS×Nat->Option SS):Bool->Option SS:=fun m=>
 bif m then(
 bnd (u8I (kwr .u8 (((jr (kbt .u8) (224:Int) ||| jr (kbt .u8) (kwr .u8 (Int.fdiv ((qI b a:Nat):Int) (2 ^ (min (Int.toNat (12:Int)) (kbt .i32)))))).toNat:Nat):Int))) fun e=>
 bnd (u8I (kwr .u8 (((jr (kbt .u8) (128:Int) ||| jr (kbt .u8) (kwr .u8 (((jr (kbt .u8) (kwr .u8 (Int.fdiv ((qI b a:Nat):Int) (2 ^ (min (Int.toNat (6:Int)) (kbt .i32))))) &&& jr (kbt .u8) (63:Int)).toNat:Nat):Int))).toNat:Nat):Int))) fun f=>
 bnd (u8I (kwr .u8 (((jr (kbt .u8) (128:Int) ||| jr (kbt .u8) (kwr .u8 (((jr (kbt .u8) (kwr .u8 ((qI b a:Nat):Int)) &&& jr (kbt .u8) (63:Int)).toNat:Nat):Int))).toNat:Nat):Int))) fun g=>
 chk (decide ((qx (c++[e,f,g])).length * 1<=140737488355328)) (
 d ((c++[e,f,g]),(bif(decide (a<b.length))then zF b a else a))))
 else(
 bif(bif(decide ((kwr .u32 ((qI b a:Nat):Int))>65535))then(decide ((kwr .u32 ((qI b a:Nat):Int))<=1114111))else false)then(
 bnd (u8I (kwr .u8 (((jr (kbt .u8) (240:Int) ||| jr (kbt .u8) (kwr .u8 (Int.fdiv ((qI b a:Nat):Int) (2 ^ (min (Int.toNat (18:Int)) (kbt .i32)))))).toNat:Nat):Int))) fun i=>
 bnd (u8I (kwr .u8 (((jr (kbt .u8) (128:Int) ||| jr (kbt .u8) (kwr .u8 (((jr (kbt .u8) (kwr .u8 (Int.fdiv ((qI b a:Nat):Int) (2 ^ (min (Int.toNat (12:Int)) (kbt .i32))))) &&& jr (kbt .u8) (63:Int)).toNat:Nat):Int))).toNat:Nat):Int))) fun j=>
 bnd (u8I (kwr .u8 (((jr (kbt .u8) (128:Int) ||| jr (kbt .u8) (kwr .u8 (((jr (kbt .u8) (kwr .u8 (Int.fdiv ((qI b a:Nat):Int) (2 ^ (min (Int.toNat (6:Int)) (kbt .i32))))) &&& jr (kbt .u8) (63:Int)).toNat:Nat):Int))).toNat:Nat):Int))) fun k=>
 bnd (u8I (kwr .u8 (((jr (kbt .u8) (128:Int) ||| jr (kbt .u8) (kwr .u8 (((jr (kbt .u8) (kwr .u8 ((qI b a:Nat):Int)) &&& jr (kbt .u8) (63:Int)).toNat:Nat):Int))).toNat:Nat):Int))) fun l=>
 chk (decide ((qx (c++[i,j,k,l])).length * 1<=140737488355328)) (
 d ((c++[i,j,k,l]),(bif(decide (a<b.length))then zF b a else a))))
 else(
 chk (decide ((qx (c++[(239:UInt8),(191:UInt8),(189:UInt8)])).length * 1<=140737488355328)) (
 d ((c++[(239:UInt8),(191:UInt8),(189:UInt8)]),(bif(decide (a<b.length))then zF b a else a)))))
def vw (n:Nat) (b:SS):(SS×Nat->Option SS)->SS×Nat->Option SS:=fun d (c,a)=>
 bif(decide (a<b.length))then(
 bif(bif(((qI b a:Nat):Int)==92)then true else(((qI b a:Nat):Int)==39))then(
 chk (decide ((qx (c++[(92:UInt8)])).length * 1<=140737488355328)) (
 bif(decide ((kwr .u32 ((qI b a:Nat):Int))<=127))then(
 bnd (u8I (kwr .u8 ((qI b a:Nat):Int))) fun m=>
 chk (decide ((qx ((c++[(92:UInt8)])++[m])).length * 1<=140737488355328)) (
 d (((c++[(92:UInt8)])++[m]),(bif(decide (a<b.length))then zF b a else a))))
 else(
 bif(decide ((kwr .u32 ((qI b a:Nat):Int))<=2047))then(
 bnd (u8I (kwr .u8 (((jr (kbt .u8) (192:Int) ||| jr (kbt .u8) (kwr .u8 (Int.fdiv ((qI b a:Nat):Int) (2 ^ (min (Int.toNat (6:Int)) (kbt .i32)))))).toNat:Nat):Int))) fun o=>
 bnd (u8I (kwr .u8 (((jr (kbt .u8) (128:Int) ||| jr (kbt .u8) (kwr .u8 (((jr (kbt .u8) (kwr .u8 ((qI b a:Nat):Int)) &&& jr (kbt .u8) (63:Int)).toNat:Nat):Int))).toNat:Nat):Int))) fun p=>
 chk (decide ((qx ((c++[(92:UInt8)])++[o,p])).length * 1<=140737488355328)) (
 d (((c++[(92:UInt8)])++[o,p]),(bif(decide (a<b.length))then zF b a else a))))
 else(
 bif(decide ((kwr .u32 ((qI b a:Nat):Int))<55296))then(
 mj n b a c d (decide ((kwr .u32 ((qI b a:Nat):Int))<55296)))
 else(
 mj n b a c d (bif(decide ((57343:Int)<(kwr .u32 ((qI b a:Nat):Int))))then(decide ((kwr .u32 ((qI b a:Nat):Int))<=65535))else false))))))
 else(
 bif(((qI b a:Nat):Int)==10)then(
 chk (decide ((qx (c++([92,110]:SS))).length * 1<=140737488355328)) (
 d ((c++([92,110]:SS)),(bif(decide (a<b.length))then zF b a else a))))
 else(
 bif(((qI b a:Nat):Int)==9)then(
 chk (decide ((qx (c++([92,116]:SS))).length * 1<=140737488355328)) (
 d ((c++([92,116]:SS)),(bif(decide (a<b.length))then zF b a else a))))
 else(
 bif(((qI b a:Nat):Int)==13)then(
 chk (decide ((qx (c++([92,114]:SS))).length * 1<=140737488355328)) (
 d ((c++([92,114]:SS)),(bif(decide (a<b.length))then zF b a else a))))
 else(
 bnd (qE ((!(bif(decide (((qI b a:Nat):Int)<32))then true else(((qI b a:Nat):Int)==127)))&&(((qI b a:Nat):Int)==65533)) (Qq ((a:Nat):Int))) fun f=>
 chk (bif((!(bif(decide (((qI b a:Nat):Int)<32))then true else(((qI b a:Nat):Int)==127)))&&(((qI b a:Nat):Int)==65533))then decide (f<=b.length)else true) (
 bnd (qE ((!(bif(decide (((qI b a:Nat):Int)<32))then true else(((qI b a:Nat):Int)==127)))&&(((qI b a:Nat):Int)==65533)) (vX n (b.drop f) ([239,191,189]:SS))) fun q=>
 bif(bif(bif(decide (((qI b a:Nat):Int)<32))then true else(((qI b a:Nat):Int)==127))then true else(bif(((qI b a:Nat):Int)==65533)then(!q)else false))then(
 bnd (idx b ((a:Nat):Int)) fun g=>
 chk (decide ((qx (c++([92,120]:SS))).length * 1<=140737488355328)) (
 bnd (idx ([48,49,50,51,52,53,54,55,56,57,97,98,99,100,101,102]:SS) (Int.fdiv ((g.toNat:Nat):Int) (2 ^ (min (Int.toNat (4:Int)) (kbt .u8))))) fun e=>
 chk (decide ((qx ((c++([92,120]:SS))++[e])).length * 1<=140737488355328)) (
 bnd (idx ([48,49,50,51,52,53,54,55,56,57,97,98,99,100,101,102]:SS) (kwr .u8 (((jr (kbt .u8) ((g.toNat:Nat):Int) &&& jr (kbt .u8) (15:Int)).toNat:Nat):Int))) fun i=>
 chk (decide ((qx (((c++([92,120]:SS))++[e])++[i])).length * 1<=140737488355328)) (
 d ((((c++([92,120]:SS))++[e])++[i]),(bif(decide (a<b.length))then zF b a else a))))))
 else(
 bif(decide ((kwr .u32 ((qI b a:Nat):Int))<=127))then(
 bnd (u8I (kwr .u8 ((qI b a:Nat):Int))) fun j=>
 chk (decide ((qx (c++[j])).length * 1<=140737488355328)) (
 d ((c++[j]),(bif(decide (a<b.length))then zF b a else a))))
 else(
 bif(decide ((kwr .u32 ((qI b a:Nat):Int))<=2047))then(
 bnd (u8I (kwr .u8 (((jr (kbt .u8) (192:Int) ||| jr (kbt .u8) (kwr .u8 (Int.fdiv ((qI b a:Nat):Int) (2 ^ (min (Int.toNat (6:Int)) (kbt .i32)))))).toNat:Nat):Int))) fun k=>
 bnd (u8I (kwr .u8 (((jr (kbt .u8) (128:Int) ||| jr (kbt .u8) (kwr .u8 (((jr (kbt .u8) (kwr .u8 ((qI b a:Nat):Int)) &&& jr (kbt .u8) (63:Int)).toNat:Nat):Int))).toNat:Nat):Int))) fun l=>
 chk (decide ((qx (c++[k,l])).length * 1<=140737488355328)) (
 d ((c++[k,l]),(bif(decide (a<b.length))then zF b a else a))))
 else(
 bif(decide ((kwr .u32 ((qI b a:Nat):Int))<55296))then(
 uV n b a c d (decide ((kwr .u32 ((qI b a:Nat):Int))<55296)))
 else(
 uV n b a c d (bif(decide ((57343:Int)<(kwr .u32 ((qI b a:Nat):Int))))then(decide ((kwr .u32 ((qI b a:Nat):Int))<=65535))else false)))))))))))
 else(
 chk (decide ((qx (c++[(39:UInt8)])).length * 1<=140737488355328)) (
 some (c++[(39:UInt8)])))
def bp (n:Nat) (a:SS):Option SS:=
 chk (decide ((qx [(39:UInt8)]).length * 1<=140737488355328)) (
 qA (vw n a) n ([(39:UInt8)],0))
theorem Xv (n:Nat):∀ (c r:SS),bp n c=some r->qc TP 195 [PV.str c] (Ek r):=by
 intro c r h;unfold bp at h;refine zN Tryz.call195 Tryz.func195 [214,215,216,218,219,1000000] ?_;conv=>whnf
 refine zI Tryz.call214 Tryz.func214 [225,1000000] ?_;conv=>whnf
 refine zI Tryz.call225 Tryz.func225 [231,1000000] ?_;conv=>whnf
 refine⟨fun _=>?_,fun hf=>absurd hf (by first|decide|simp)⟩;conv=>whnf
 refine⟨⟨by decide,by first|decide|exact Nat.zero_lt_succ _⟩,?_⟩;conv=>whnf
 refine vO.noEscape Tryz.func231 (by kernel_rfl) (by kernel_rfl) (by kernel_rfl) (by kernel_rfl) ?_;conv=>whnf
 refine⟨by kernel_rfl,?_⟩;conv=>whnf
 refine⟨Codec.one xw [(39:UInt8)],qx [(39:UInt8)],.inl rfl,?_⟩;conv=>whnf
 obtain⟨a4,h⟩:=qg h;refine⟨⟨Codec.wide xw [(39:UInt8)],kod a4,zy a4 (by decide)⟩,?_⟩;conv=>whnf
 refine zj.fn [214,215,216,218,219,1000000] (S:=SS×Nat) (fun(a,b)=>[(0,pS c),(3,.ptr 0 0),(8,.ptr 1 0)]) (fun(a,b)=>[.box 259 [.ptr 0 0,.tsl 2 (qx a)],.sit c b,.tail 5 1 (qx a).length]) (B:=vw n c) h (wk [0,2,1] []) ?_;intro a7 st h;obtain⟨a,b⟩:=st;unfold vw at h;conv=>whnf
 refine⟨(decide (b<c.length)),(bif(decide (b<c.length))then zF c b else b),⟨rfl,rfl⟩,?_⟩;conv=>whnf
 apply ifc h<;>intro d h
 ·conv=>whnf
  refine⟨by assumption,?_⟩;conv=>whnf
  refine⟨by assumption,?_⟩;conv=>whnf
  refine⟨id,id,?_⟩;conv=>whnf
  apply ifc h<;>intro d h
  ·conv=>whnf
   refine zI Tryz.call214 Tryz.func214 [225,1000000] ?_;conv=>whnf
   refine zI Tryz.call225 Tryz.func225 [231,1000000] ?_;conv=>whnf
   refine⟨fun hf=>absurd hf (by first|decide|simp),fun _=>?_⟩;conv=>whnf
   refine⟨fun hf=>absurd hf (by first|decide|simp),fun _=>?_⟩;conv=>whnf
   refine⟨Codec.one xw [(92:UInt8)],qx [(92:UInt8)],.inl rfl,?_⟩;conv=>whnf
   rw[show qx a++qx [(92:UInt8)]=qx (a++[(92:UInt8)])from Codec.append xw a [(92:UInt8)]];conv=>whnf
   obtain⟨O,h⟩:=qg h;refine⟨⟨Codec.wide xw (a++[(92:UInt8)]),kod O,zy O (by decide)⟩,?_⟩;conv=>whnf
   refine⟨⟨rfl,rfl,rfl⟩,?_⟩;conv=>whnf
   refine zI Tryz.call215 Tryz.func215 [225,226,1000000] ?_;conv=>whnf
   refine zI Tryz.call225 Tryz.func225 [231,1000000] ?_;conv=>whnf
   refine⟨fun hf=>absurd hf (by first|decide|simp),fun _=>?_⟩;conv=>whnf
   refine⟨fun hf=>absurd hf (by first|decide|simp),fun _=>?_⟩;conv=>whnf
   refine zI Tryz.call226 Tryz.func226 [232,1000000] ?_;conv=>whnf
   apply ifc h<;>intro d h
   ·conv=>whnf
    refine bq h fun C a8 h=>?_;rw[show([[PV.int .u8 (kwr .u8 ((qI c b:Nat):Int))]]:List (List PV))=qx [C]from by rw[vh a8]; rfl];refine⟨Codec.one xw [C],_,.inl rfl,?_⟩;(conv=>whnf);rw[show qx (a++[(92:UInt8)])++qx [C]=qx ((a++[(92:UInt8)])++[C])from Codec.append xw (a++[(92:UInt8)]) [C]];(conv=>whnf);obtain⟨U,h⟩:=qg h;refine⟨⟨Codec.wide xw ((a++[(92:UInt8)])++[C]),kod U,zy U (by decide)⟩,?_⟩;(conv=>whnf);refine⟨⟨rfl,rfl,rfl⟩,?_⟩;(conv=>whnf);exact⟨(((a++[(92:UInt8)])++[C]),(bif(decide (b<c.length))then zF c b else b)),h,wk [0,1,4] []⟩
   conv=>whnf
   refine zI Tryz.call232 Tryz.func232 [1000000] ?_;conv=>whnf
   apply ifc h<;>intro d h
   ·conv=>whnf
    refine⟨by unfold gI; decide,?_⟩;(conv=>whnf);refine bq h fun D b9 h=>?_;refine bq h fun F c7 h=>?_;rw[show([[PV.int .u8 (kwr .u8 (((jr (kbt .u8) (192:Int) ||| jr (kbt .u8) (kwr .u8 (Int.fdiv ((qI c b:Nat):Int) (2 ^ (min (Int.toNat (6:Int)) (kbt .i32)))))).toNat:Nat):Int))],[PV.int .u8 (kwr .u8 (((jr (kbt .u8) (128:Int) ||| jr (kbt .u8) (kwr .u8 (((jr (kbt .u8) (kwr .u8 ((qI c b:Nat):Int)) &&& jr (kbt .u8) (63:Int)).toNat:Nat):Int))).toNat:Nat):Int))]]:List (List PV))=qx [D,F]from by rw[vh b9,vh c7]; rfl];refine⟨Codec.one xw [D,F],_,.inl rfl,?_⟩;(conv=>whnf);rw[show qx (a++[(92:UInt8)])++qx [D,F]=qx ((a++[(92:UInt8)])++[D,F])from Codec.append xw (a++[(92:UInt8)]) [D,F]];(conv=>whnf);obtain⟨a5,h⟩:=qg h;refine⟨⟨Codec.wide xw ((a++[(92:UInt8)])++[D,F]),kod a5,zy a5 (by decide)⟩,?_⟩;(conv=>whnf);refine⟨⟨rfl,rfl,rfl⟩,?_⟩;(conv=>whnf);exact⟨(((a++[(92:UInt8)])++[D,F]),(bif(decide (b<c.length))then zF c b else b)),h,wk [0,1,4] []⟩
   conv=>whnf
   refine mw.cut (S:=Bool) (fun L=>[(0,.tsl 3 (qx (a++[(92:UInt8)]))),(1,.p (.int .i32 ((qI c b:Nat):Int))),(5,.p (.int .u32 (kwr .u32 ((qI c b:Nat):Int)))),(25,pB L)]) (fun L=>[.box 259 [.ptr 0 0,.tsl 3 (qx (a++[(92:UInt8)]))],.sit c (bif(decide (b<c.length))then zF c b else b),.dead,.tail 5 1 (qx (a++[(92:UInt8)])).length]) (mj n c b a a7) (r:=r) ?_ ?_
   ·intro L h
    unfold mj at h;(conv=>whnf);apply ifc h<;>intro d h
    ·conv=>whnf
     refine⟨by unfold gI; decide,?_⟩;(conv=>whnf);refine⟨by unfold gI; decide,?_⟩;(conv=>whnf);refine bq h fun G d1 h=>?_;refine bq h fun H d2 h=>?_;refine bq h fun f d3 h=>?_;rw[show([[PV.int .u8 (kwr .u8 (((jr (kbt .u8) (224:Int) ||| jr (kbt .u8) (kwr .u8 (Int.fdiv ((qI c b:Nat):Int) (2 ^ (min (Int.toNat (12:Int)) (kbt .i32)))))).toNat:Nat):Int))],[PV.int .u8 (kwr .u8 (((jr (kbt .u8) (128:Int) ||| jr (kbt .u8) (kwr .u8 (((jr (kbt .u8) (kwr .u8 (Int.fdiv ((qI c b:Nat):Int) (2 ^ (min (Int.toNat (6:Int)) (kbt .i32))))) &&& jr (kbt .u8) (63:Int)).toNat:Nat):Int))).toNat:Nat):Int))],[PV.int .u8 (kwr .u8 (((jr (kbt .u8) (128:Int) ||| jr (kbt .u8) (kwr .u8 (((jr (kbt .u8) (kwr .u8 ((qI c b:Nat):Int)) &&& jr (kbt .u8) (63:Int)).toNat:Nat):Int))).toNat:Nat):Int))]]:List (List PV))=qx [G,H,f]from by rw[vh d1,vh d2,vh d3]; rfl];refine⟨Codec.one xw [G,H,f],_,.inl rfl,?_⟩;(conv=>whnf);rw[show qx (a++[(92:UInt8)])++qx [G,H,f]=qx ((a++[(92:UInt8)])++[G,H,f])from Codec.append xw (a++[(92:UInt8)]) [G,H,f]];(conv=>whnf);obtain⟨a6,h⟩:=qg h;refine⟨⟨Codec.wide xw ((a++[(92:UInt8)])++[G,H,f]),kod a6,zy a6 (by decide)⟩,?_⟩;(conv=>whnf);refine⟨⟨rfl,rfl,rfl⟩,?_⟩;(conv=>whnf);exact⟨(((a++[(92:UInt8)])++[G,H,f]),(bif(decide (b<c.length))then zF c b else b)),h,wk [0,1,4] []⟩
    (conv=>whnf);refine⟨id,id,?_⟩
    (conv=>whnf);apply ifc h<;>intro d h
    ·conv=>whnf
     refine⟨by unfold gI; decide,?_⟩;(conv=>whnf);refine⟨by unfold gI; decide,?_⟩;(conv=>whnf);refine⟨by unfold gI; decide,?_⟩;(conv=>whnf);refine bq h fun g a9 h=>?_;refine bq h fun i b0 h=>?_;refine bq h fun l b1 h=>?_;refine bq h fun m b2 h=>?_;rw[show([[PV.int .u8 (kwr .u8 (((jr (kbt .u8) (240:Int) ||| jr (kbt .u8) (kwr .u8 (Int.fdiv ((qI c b:Nat):Int) (2 ^ (min (Int.toNat (18:Int)) (kbt .i32)))))).toNat:Nat):Int))],[PV.int .u8 (kwr .u8 (((jr (kbt .u8) (128:Int) ||| jr (kbt .u8) (kwr .u8 (((jr (kbt .u8) (kwr .u8 (Int.fdiv ((qI c b:Nat):Int) (2 ^ (min (Int.toNat (12:Int)) (kbt .i32))))) &&& jr (kbt .u8) (63:Int)).toNat:Nat):Int))).toNat:Nat):Int))],[PV.int .u8 (kwr .u8 (((jr (kbt .u8) (128:Int) ||| jr (kbt .u8) (kwr .u8 (((jr (kbt .u8) (kwr .u8 (Int.fdiv ((qI c b:Nat):Int) (2 ^ (min (Int.toNat (6:Int)) (kbt .i32))))) &&& jr (kbt .u8) (63:Int)).toNat:Nat):Int))).toNat:Nat):Int))],[PV.int .u8 (kwr .u8 (((jr (kbt .u8) (128:Int) ||| jr (kbt .u8) (kwr .u8 (((jr (kbt .u8) (kwr .u8 ((qI c b:Nat):Int)) &&& jr (kbt .u8) (63:Int)).toNat:Nat):Int))).toNat:Nat):Int))]]:List (List PV))=qx [g,i,l,m]from by rw[vh a9,vh b0,vh b1,vh b2]; rfl];refine⟨Codec.one xw [g,i,l,m],_,.inl rfl,?_⟩;(conv=>whnf);rw[show qx (a++[(92:UInt8)])++qx [g,i,l,m]=qx ((a++[(92:UInt8)])++[g,i,l,m])from Codec.append xw (a++[(92:UInt8)]) [g,i,l,m]];(conv=>whnf);obtain⟨M,h⟩:=qg h;refine⟨⟨Codec.wide xw ((a++[(92:UInt8)])++[g,i,l,m]),kod M,zy M (by decide)⟩,?_⟩;(conv=>whnf);refine⟨⟨rfl,rfl,rfl⟩,?_⟩;(conv=>whnf);exact⟨(((a++[(92:UInt8)])++[g,i,l,m]),(bif(decide (b<c.length))then zF c b else b)),h,wk [0,1,4] []⟩
    (conv=>whnf);refine⟨Codec.one xw [(239:UInt8),(191:UInt8),(189:UInt8)],qx [(239:UInt8),(191:UInt8),(189:UInt8)],.inl rfl,?_⟩
    (conv=>whnf);rw[show qx (a++[(92:UInt8)])++qx [(239:UInt8),(191:UInt8),(189:UInt8)]=qx ((a++[(92:UInt8)])++[(239:UInt8),(191:UInt8),(189:UInt8)])from Codec.append xw (a++[(92:UInt8)]) [(239:UInt8),(191:UInt8),(189:UInt8)]]
    (conv=>whnf);obtain⟨N,h⟩:=qg h
    refine⟨⟨Codec.wide xw ((a++[(92:UInt8)])++[(239:UInt8),(191:UInt8),(189:UInt8)]),kod N,zy N (by decide)⟩,?_⟩;(conv=>whnf);refine⟨⟨rfl,rfl,rfl⟩,?_⟩;(conv=>whnf);exact⟨(((a++[(92:UInt8)])++[(239:UInt8),(191:UInt8),(189:UInt8)]),(bif(decide (b<c.length))then zF c b else b)),h,wk [0,1,4] []⟩
   conv=>whnf
   apply ifc h<;>intro d h
   ·conv=>whnf
    exact⟨(decide ((kwr .u32 ((qI c b:Nat):Int))<55296)),h,wk [0,1,2,3] []⟩
   conv=>whnf
   refine⟨id,id,?_⟩;conv=>whnf
   exact⟨(bif(decide ((57343:Int)<(kwr .u32 ((qI c b:Nat):Int))))then(decide ((kwr .u32 ((qI c b:Nat):Int))<=65535))else false),h,wk [0,1,2,3] []⟩
  conv=>whnf
  apply ifc h<;>intro d h
  ·conv=>whnf
   refine zI Tryz.call216 Tryz.func216 [225,1000000] ?_;conv=>whnf
   refine zI Tryz.call225 Tryz.func225 [231,1000000] ?_;conv=>whnf
   refine⟨fun hf=>absurd hf (by first|decide|simp),fun _=>?_⟩;conv=>whnf
   refine⟨fun hf=>absurd hf (by first|decide|simp),fun _=>?_⟩;conv=>whnf
   rw[show qx a++qx ([92,110]:SS)=qx (a++([92,110]:SS))from Codec.append xw a ([92,110]:SS)];conv=>whnf
   obtain⟨P,h⟩:=qg h;refine⟨⟨Codec.wide xw a,kod P,zy P (by decide)⟩,?_⟩;conv=>whnf
   refine⟨⟨rfl,rfl,rfl⟩,?_⟩;conv=>whnf
   exact⟨((a++([92,110]:SS)),(bif(decide (b<c.length))then zF c b else b)),h,wk [0,1,3] []⟩
  conv=>whnf
  apply ifc h<;>intro d h
  ·conv=>whnf
   refine zI Tryz.call216 Tryz.func216 [225,1000000] ?_;conv=>whnf
   refine zI Tryz.call225 Tryz.func225 [231,1000000] ?_;conv=>whnf
   refine⟨fun hf=>absurd hf (by first|decide|simp),fun _=>?_⟩;conv=>whnf
   refine⟨fun hf=>absurd hf (by first|decide|simp),fun _=>?_⟩;conv=>whnf
   rw[show qx a++qx ([92,116]:SS)=qx (a++([92,116]:SS))from Codec.append xw a ([92,116]:SS)];conv=>whnf
   obtain⟨Q,h⟩:=qg h;refine⟨⟨Codec.wide xw a,kod Q,zy Q (by decide)⟩,?_⟩;conv=>whnf
   refine⟨⟨rfl,rfl,rfl⟩,?_⟩;conv=>whnf
   exact⟨((a++([92,116]:SS)),(bif(decide (b<c.length))then zF c b else b)),h,wk [0,1,3] []⟩
  conv=>whnf
  apply ifc h<;>intro d h
  ·conv=>whnf
   refine zI Tryz.call216 Tryz.func216 [225,1000000] ?_;conv=>whnf
   refine zI Tryz.call225 Tryz.func225 [231,1000000] ?_;conv=>whnf
   refine⟨fun hf=>absurd hf (by first|decide|simp),fun _=>?_⟩;conv=>whnf
   refine⟨fun hf=>absurd hf (by first|decide|simp),fun _=>?_⟩;conv=>whnf
   rw[show qx a++qx ([92,114]:SS)=qx (a++([92,114]:SS))from Codec.append xw a ([92,114]:SS)];conv=>whnf
   obtain⟨R,h⟩:=qg h;refine⟨⟨Codec.wide xw a,kod R,zy R (by decide)⟩,?_⟩;conv=>whnf
   refine⟨⟨rfl,rfl,rfl⟩,?_⟩;conv=>whnf
   exact⟨((a++([92,114]:SS)),(bif(decide (b<c.length))then zF c b else b)),h,wk [0,1,3] []⟩
  conv=>whnf
  iterate 6 refine⟨id,?_⟩
  conv=>whnf
  refine bq h fun J d0 h=>⟨_,fun I=>zC (qb d0 I),?_⟩;conv=>whnf
  obtain⟨c9,h⟩:=qg h;refine⟨fun I=>⟨(kod (gd c9 I):(J<=c.length)),Nat.le_refl _⟩,?_⟩;rw[show List.drop J (List.take c.length c)=(c.drop J)from by rw[List.take_length]];conv=>whnf
  refine⟨id,?_⟩;conv=>whnf
  refine bq h fun _ c8 h=>⟨_,fun I=>(ZJ n _ _ _ (qb c8 I)),?_⟩;conv=>whnf
  refine⟨id,id,id,id,?_⟩;conv=>whnf
  apply ifc h<;>intro d h
  ·conv=>whnf
   refine bq h fun _ b5 h=>⟨_,zW b5,?_⟩;conv=>whnf
   refine zI Tryz.call218 Tryz.func218 [214,216,1000000] ?_;conv=>whnf
   refine zI Tryz.call216 Tryz.func216 [225,1000000] ?_;conv=>whnf
   refine zI Tryz.call225 Tryz.func225 [231,1000000] ?_;conv=>whnf
   refine⟨fun hf=>absurd hf (by first|decide|simp),fun _=>?_⟩;conv=>whnf
   refine⟨fun hf=>absurd hf (by first|decide|simp),fun _=>?_⟩;conv=>whnf
   rw[show qx a++qx ([92,120]:SS)=qx (a++([92,120]:SS))from Codec.append xw a ([92,120]:SS)];conv=>whnf
   obtain⟨X,h⟩:=qg h;refine⟨⟨Codec.wide xw a,kod X,zy X (by decide)⟩,?_⟩;conv=>whnf
   refine⟨⟨rfl,rfl,rfl⟩,?_⟩;conv=>whnf
   refine⟨by unfold gI; decide,?_⟩;conv=>whnf
   refine bq h fun e b4 h=>⟨_,zW b4,?_⟩;conv=>whnf
   refine zI Tryz.call214 Tryz.func214 [225,1000000] ?_;conv=>whnf
   refine zI Tryz.call225 Tryz.func225 [231,1000000] ?_;conv=>whnf
   refine⟨fun hf=>absurd hf (by first|decide|simp),fun _=>?_⟩;conv=>whnf
   refine⟨fun hf=>absurd hf (by first|decide|simp),fun _=>?_⟩;conv=>whnf
   refine⟨Codec.one xw [e],qx [e],.inl rfl,?_⟩;conv=>whnf
   rw[show qx (a++([92,120]:SS))++qx [e]=qx ((a++([92,120]:SS))++[e])from Codec.append xw (a++([92,120]:SS)) [e]];conv=>whnf
   obtain⟨W,h⟩:=qg h;refine⟨⟨Codec.wide xw ((a++([92,120]:SS))++[e]),kod W,zy W (by decide)⟩,?_⟩;conv=>whnf
   refine⟨⟨rfl,rfl,rfl⟩,?_⟩;conv=>whnf
   refine bq h fun o b3 h=>⟨_,zW b3,?_⟩;conv=>whnf
   refine zI Tryz.call214 Tryz.func214 [225,1000000] ?_;conv=>whnf
   refine zI Tryz.call225 Tryz.func225 [231,1000000] ?_;conv=>whnf
   refine⟨fun hf=>absurd hf (by first|decide|simp),fun _=>?_⟩;conv=>whnf
   refine⟨fun hf=>absurd hf (by first|decide|simp),fun _=>?_⟩;conv=>whnf
   refine⟨Codec.one xw [o],qx [o],.inl rfl,?_⟩;conv=>whnf
   rw[show qx ((a++([92,120]:SS))++[e])++qx [o]=qx (((a++([92,120]:SS))++[e])++[o])from Codec.append xw ((a++([92,120]:SS))++[e]) [o]];conv=>whnf
   obtain⟨V,h⟩:=qg h;refine⟨⟨Codec.wide xw (((a++([92,120]:SS))++[e])++[o]),kod V,zy V (by decide)⟩,?_⟩;conv=>whnf
   refine⟨⟨rfl,rfl,rfl⟩,?_⟩;conv=>whnf
   exact⟨((((a++([92,120]:SS))++[e])++[o]),(bif(decide (b<c.length))then zF c b else b)),h,wk [0,1,5] []⟩
  conv=>whnf
  refine zI Tryz.call215 Tryz.func215 [225,226,1000000] ?_;conv=>whnf
  refine zI Tryz.call225 Tryz.func225 [231,1000000] ?_;conv=>whnf
  refine⟨fun hf=>absurd hf (by first|decide|simp),fun _=>?_⟩;conv=>whnf
  refine⟨fun hf=>absurd hf (by first|decide|simp),fun _=>?_⟩;conv=>whnf
  refine zI Tryz.call226 Tryz.func226 [232,1000000] ?_;conv=>whnf
  apply ifc h<;>intro d h
  ·conv=>whnf
   refine bq h fun q b6 h=>?_;rw[show([[PV.int .u8 (kwr .u8 ((qI c b:Nat):Int))]]:List (List PV))=qx [q]from by rw[vh b6]; rfl];refine⟨Codec.one xw [q],_,.inl rfl,?_⟩;conv=>whnf
   rw[show qx a++qx [q]=qx (a++[q])from Codec.append xw a [q]];conv=>whnf
   obtain⟨Y,h⟩:=qg h;refine⟨⟨Codec.wide xw (a++[q]),kod Y,zy Y (by decide)⟩,?_⟩;conv=>whnf
   refine⟨⟨rfl,rfl,rfl⟩,?_⟩;conv=>whnf
   exact⟨((a++[q]),(bif(decide (b<c.length))then zF c b else b)),h,wk [0,1,3] []⟩
  conv=>whnf
  refine zI Tryz.call232 Tryz.func232 [1000000] ?_;conv=>whnf
  apply ifc h<;>intro d h
  ·conv=>whnf
   refine⟨by unfold gI; decide,?_⟩;conv=>whnf
   refine bq h fun s b7 h=>?_;refine bq h fun t b8 h=>?_;rw[show([[PV.int .u8 (kwr .u8 (((jr (kbt .u8) (192:Int) ||| jr (kbt .u8) (kwr .u8 (Int.fdiv ((qI c b:Nat):Int) (2 ^ (min (Int.toNat (6:Int)) (kbt .i32)))))).toNat:Nat):Int))],[PV.int .u8 (kwr .u8 (((jr (kbt .u8) (128:Int) ||| jr (kbt .u8) (kwr .u8 (((jr (kbt .u8) (kwr .u8 ((qI c b:Nat):Int)) &&& jr (kbt .u8) (63:Int)).toNat:Nat):Int))).toNat:Nat):Int))]]:List (List PV))=qx [s,t]from by rw[vh b7,vh b8]; rfl];refine⟨Codec.one xw [s,t],_,.inl rfl,?_⟩;conv=>whnf
   rw[show qx a++qx [s,t]=qx (a++[s,t])from Codec.append xw a [s,t]];conv=>whnf
   obtain⟨Z,h⟩:=qg h;refine⟨⟨Codec.wide xw (a++[s,t]),kod Z,zy Z (by decide)⟩,?_⟩;conv=>whnf
   refine⟨⟨rfl,rfl,rfl⟩,?_⟩;conv=>whnf
   exact⟨((a++[s,t]),(bif(decide (b<c.length))then zF c b else b)),h,wk [0,1,3] []⟩
  conv=>whnf
  refine mw.cut (S:=Bool) (fun K=>[(0,.tsl 2 (qx a)),(1,.p (.int .i32 ((qI c b:Nat):Int))),(5,.p (.int .u32 (kwr .u32 ((qI c b:Nat):Int)))),(25,pB K)]) (fun K=>[.box 259 [.ptr 0 0,.tsl 2 (qx a)],.sit c (bif(decide (b<c.length))then zF c b else b),.tail 5 1 (qx a).length]) (uV n c b a a7) (r:=r) ?_ ?_
  ·intro K h
   unfold uV at h;conv=>whnf
   apply ifc h<;>intro d h
   ·conv=>whnf
    refine⟨by unfold gI; decide,?_⟩;(conv=>whnf);refine⟨by unfold gI; decide,?_⟩;(conv=>whnf);refine bq h fun u c0 h=>?_;refine bq h fun v c1 h=>?_;refine bq h fun w c2 h=>?_;rw[show([[PV.int .u8 (kwr .u8 (((jr (kbt .u8) (224:Int) ||| jr (kbt .u8) (kwr .u8 (Int.fdiv ((qI c b:Nat):Int) (2 ^ (min (Int.toNat (12:Int)) (kbt .i32)))))).toNat:Nat):Int))],[PV.int .u8 (kwr .u8 (((jr (kbt .u8) (128:Int) ||| jr (kbt .u8) (kwr .u8 (((jr (kbt .u8) (kwr .u8 (Int.fdiv ((qI c b:Nat):Int) (2 ^ (min (Int.toNat (6:Int)) (kbt .i32))))) &&& jr (kbt .u8) (63:Int)).toNat:Nat):Int))).toNat:Nat):Int))],[PV.int .u8 (kwr .u8 (((jr (kbt .u8) (128:Int) ||| jr (kbt .u8) (kwr .u8 (((jr (kbt .u8) (kwr .u8 ((qI c b:Nat):Int)) &&& jr (kbt .u8) (63:Int)).toNat:Nat):Int))).toNat:Nat):Int))]]:List (List PV))=qx [u,v,w]from by rw[vh c0,vh c1,vh c2]; rfl];refine⟨Codec.one xw [u,v,w],_,.inl rfl,?_⟩;(conv=>whnf);rw[show qx a++qx [u,v,w]=qx (a++[u,v,w])from Codec.append xw a [u,v,w]];(conv=>whnf);obtain⟨a0,h⟩:=qg h;refine⟨⟨Codec.wide xw (a++[u,v,w]),kod a0,zy a0 (by decide)⟩,?_⟩;(conv=>whnf);refine⟨⟨rfl,rfl,rfl⟩,?_⟩;(conv=>whnf);exact⟨((a++[u,v,w]),(bif(decide (b<c.length))then zF c b else b)),h,wk [0,1,3] []⟩
   conv=>whnf
   refine⟨id,id,?_⟩;conv=>whnf
   apply ifc h<;>intro d h
   ·conv=>whnf
    refine⟨by unfold gI; decide,?_⟩;(conv=>whnf);refine⟨by unfold gI; decide,?_⟩;(conv=>whnf);refine⟨by unfold gI; decide,?_⟩;(conv=>whnf);refine bq h fun x c3 h=>?_;refine bq h fun y c4 h=>?_;refine bq h fun z c5 h=>?_;refine bq h fun A c6 h=>?_;rw[show([[PV.int .u8 (kwr .u8 (((jr (kbt .u8) (240:Int) ||| jr (kbt .u8) (kwr .u8 (Int.fdiv ((qI c b:Nat):Int) (2 ^ (min (Int.toNat (18:Int)) (kbt .i32)))))).toNat:Nat):Int))],[PV.int .u8 (kwr .u8 (((jr (kbt .u8) (128:Int) ||| jr (kbt .u8) (kwr .u8 (((jr (kbt .u8) (kwr .u8 (Int.fdiv ((qI c b:Nat):Int) (2 ^ (min (Int.toNat (12:Int)) (kbt .i32))))) &&& jr (kbt .u8) (63:Int)).toNat:Nat):Int))).toNat:Nat):Int))],[PV.int .u8 (kwr .u8 (((jr (kbt .u8) (128:Int) ||| jr (kbt .u8) (kwr .u8 (((jr (kbt .u8) (kwr .u8 (Int.fdiv ((qI c b:Nat):Int) (2 ^ (min (Int.toNat (6:Int)) (kbt .i32))))) &&& jr (kbt .u8) (63:Int)).toNat:Nat):Int))).toNat:Nat):Int))],[PV.int .u8 (kwr .u8 (((jr (kbt .u8) (128:Int) ||| jr (kbt .u8) (kwr .u8 (((jr (kbt .u8) (kwr .u8 ((qI c b:Nat):Int)) &&& jr (kbt .u8) (63:Int)).toNat:Nat):Int))).toNat:Nat):Int))]]:List (List PV))=qx [x,y,z,A]from by rw[vh c3,vh c4,vh c5,vh c6]; rfl];refine⟨Codec.one xw [x,y,z,A],_,.inl rfl,?_⟩;(conv=>whnf);rw[show qx a++qx [x,y,z,A]=qx (a++[x,y,z,A])from Codec.append xw a [x,y,z,A]];(conv=>whnf);obtain⟨a1,h⟩:=qg h;refine⟨⟨Codec.wide xw (a++[x,y,z,A]),kod a1,zy a1 (by decide)⟩,?_⟩;(conv=>whnf);refine⟨⟨rfl,rfl,rfl⟩,?_⟩;(conv=>whnf);exact⟨((a++[x,y,z,A]),(bif(decide (b<c.length))then zF c b else b)),h,wk [0,1,3] []⟩
   conv=>whnf
   refine⟨Codec.one xw [(239:UInt8),(191:UInt8),(189:UInt8)],qx [(239:UInt8),(191:UInt8),(189:UInt8)],.inl rfl,?_⟩;conv=>whnf
   rw[show qx a++qx [(239:UInt8),(191:UInt8),(189:UInt8)]=qx (a++[(239:UInt8),(191:UInt8),(189:UInt8)])from Codec.append xw a [(239:UInt8),(191:UInt8),(189:UInt8)]];conv=>whnf
   obtain⟨a2,h⟩:=qg h;refine⟨⟨Codec.wide xw (a++[(239:UInt8),(191:UInt8),(189:UInt8)]),kod a2,zy a2 (by decide)⟩,?_⟩;conv=>whnf
   refine⟨⟨rfl,rfl,rfl⟩,?_⟩;conv=>whnf
   exact⟨((a++[(239:UInt8),(191:UInt8),(189:UInt8)]),(bif(decide (b<c.length))then zF c b else b)),h,wk [0,1,3] []⟩
  conv=>whnf
  apply ifc h<;>intro d h
  ·conv=>whnf
   exact⟨(decide ((kwr .u32 ((qI c b:Nat):Int))<55296)),h,wk [0,1,2] []⟩
  conv=>whnf
  refine⟨id,id,?_⟩;conv=>whnf
  exact⟨(bif(decide ((57343:Int)<(kwr .u32 ((qI c b:Nat):Int))))then(decide ((kwr .u32 ((qI c b:Nat):Int))<=65535))else false),h,wk [0,1,2] []⟩
 conv=>whnf
 refine zI Tryz.call214 Tryz.func214 [225,1000000] ?_;conv=>whnf
 refine zI Tryz.call225 Tryz.func225 [231,1000000] ?_;conv=>whnf
 refine⟨fun hf=>absurd hf (by first|decide|simp),fun _=>?_⟩;conv=>whnf
 refine⟨fun hf=>absurd hf (by first|decide|simp),fun _=>?_⟩;conv=>whnf
 refine⟨Codec.one xw [(39:UInt8)],qx [(39:UInt8)],.inl rfl,?_⟩;conv=>whnf
 rw[show qx a++qx [(39:UInt8)]=qx (a++[(39:UInt8)])from Codec.append xw a [(39:UInt8)]];conv=>whnf
 obtain⟨a3,h⟩:=qg h;refine⟨⟨Codec.wide xw (a++[(39:UInt8)]),kod a3,zy a3 (by decide)⟩,?_⟩;conv=>whnf
 refine⟨⟨rfl,rfl,rfl⟩,?_⟩;conv=>whnf
 refine vO.string_any (T:=259) (E:=5) iG BW BV (k:=0) (j:=3) (bs:=(a++[(39:UInt8)])) (n:=(qx (a++[(39:UInt8)])).length) rfl rfl ?_;obtain rfl:=sj h;conv=>whnf
 try exact fin
abbrev Lg (r:Bool):PV:=PV.bool r
def fQ (n:Nat) (a:SS):LK (Nat) (Bool):=fun c b=>
 bif(decide (b<a.length))then(
 bif(bif(!(bif(bif(bif(decide (((qI a b:Nat):Int)≥97))then(decide (((qI a b:Nat):Int)<=122))else false)then true else(bif(decide (((qI a b:Nat):Int)≥65))then(decide (((qI a b:Nat):Int)<=90))else false))then true else(((qI a b:Nat):Int)==95)))then(bif(bif(((b:Nat):Int)==0)then true else(decide (((qI a b:Nat):Int)<48)))then true else(decide (((qI a b:Nat):Int)>57)))else false)then(
 some false)
 else(
 c (bif(decide (b<a.length))then zF a b else b)))
 else(
 some (bif(!(a==([]:SS)))then(decide (((a.length:Nat):Int)<=64))else false))
def sq (n:Nat) (a:SS):Option (Bool):=
 qA (fQ n a) n 0
theorem Dz (n:Nat):∀ (a:SS) (r:Bool),sq n a=some r->qc TP 220 [PV.str a] (Lg r):=by
 intro a r h;unfold sq at h;refine zN Tryz.call220 Tryz.func220 [1000000] ?_;conv=>whnf
 refine zj.fn [1000000] (S:=Nat) (fun b=>[(0,pS a),(7,.ptr 0 0)]) (fun b=>[.sit a b]) (B:=fQ n a) h (wk [0] []) ?_;intro _ b h;unfold fQ at h;conv=>whnf
 refine⟨(decide (b<a.length)),(bif(decide (b<a.length))then zF a b else b),⟨rfl,rfl⟩,?_⟩;conv=>whnf
 apply ifc h<;>intro c h
 ·conv=>whnf
  refine⟨by assumption,?_⟩;conv=>whnf
  refine⟨by assumption,?_⟩;conv=>whnf
  iterate 20 refine⟨id,?_⟩
  conv=>whnf
  apply ifc h<;>intro c h
  ·obtain rfl:=sj h
   conv=>whnf
   try exact fin
  conv=>whnf
  exact⟨(bif(decide (b<a.length))then zF a b else b),h,wk [0] []⟩
 conv=>whnf
 refine⟨id,id,id,?_⟩;obtain rfl:=sj h;conv=>whnf
 try exact fin
end W
end
section
set_option maxRecDepth 100000
set_option maxHeartbeats 4000000
open Go Go.Proofs Ax
namespace W
abbrev MI (r:SS):PV:=PV.str r
def Qj (n:Nat) (a:SS):Option SS:=
 bnd (sq n a) fun b=>
 bif b then(
 some a)
 else(
 bnd (bp n a) fun c=>
 some c)
theorem Hz (n:Nat):∀ (a r:SS),Qj n a=some r->qc TP 196 [PV.str a] (MI r):=by
 intro a r h;unfold Qj at h;refine zN Tryz.call196 Tryz.func196 [1000000] ?_;conv=>whnf
 refine bq h fun _ c h=>⟨_,(Dz n _ _ c),?_⟩;conv=>whnf
 apply ifc h<;>intro _ h
 ·obtain rfl:=sj h
  conv=>whnf
  try exact fin
 conv=>whnf
 refine bq h fun _ b h=>⟨_,(Xv n _ _ b),?_⟩;obtain rfl:=sj h;conv=>whnf
 try exact fin
abbrev re (r:SS):PV:=PV.str r
def fS (n:Nat) (a:List SS) (c:List SS×Int->Option SS) (d:Int):SS->Option SS:=fun b=>
 chk (decide ((qi (a++[b])).length * 16<=140737488355328)) (
 c ((a++[b]),(kwr .i64 (d+1))))
abbrev qe4:Type:=Val->Option SS
def nr (n:Nat) (j:List Val) (g150:qe4) (i:Int) (k:List SS):(List SS×Int->Option SS)->List SS×Int->Option SS:=fun g (b,a)=>
 bif(decide (a<((Val.rows j).length:Int)))then(
 bnd (idx j a) fun⟨l,m,o,p,q,s⟩=>
 bnd (g150 (Val.mk l m o p q s)) fun c=>
 bif(bif(i==5)then(decide (a<((qi k).length:Int)))else false)then(
 bnd (idx k a) fun t=>
 bnd (Qj n t) fun d=>
 chk (decide (((d.length+([58,32]:SS).length:Nat):Int)<=Vr)) (
 chk (decide ((((d++([58,32]:SS)).length+c.length:Nat):Int)<=Vr)) (
 fS n b g a ((d++([58,32]:SS))++c))))
 else(
 fS n b g a c))
 else(
 bif(i==5)then(
 bnd (dy n b ([44,32]:SS)) fun e=>
 chk (decide (((([123]:SS).length+e.length:Nat):Int)<=Vr)) (
 chk (decide ((((([123]:SS)++e).length+([125]:SS).length:Nat):Int)<=Vr)) (
 some ((([123]:SS)++e)++([125]:SS)))))
 else(
 bnd (dy n b ([44,32]:SS)) fun f=>
 chk (decide (((([91]:SS).length+f.length:Nat):Int)<=Vr)) (
 chk (decide ((((([91]:SS)++f).length+([93]:SS).length:Nat):Int)<=Vr)) (
 some ((([91]:SS)++f)++([93]:SS))))))
def fR (n:Nat) (c:List Val) (g150:qe4) (a:Int) (d:List SS):Bool->Option SS:=fun b=>
 bif b then(
 qA (nr n c g150 a d) n (([]:List _),(0:Int)))
 else(
 some ([110,117,108,108]:SS))
def nF (n:Nat) (g150:qe4) (g:Val):Option SS:=
 match g with
 | ⟨a,i,b,j,d,e⟩=>
 bif(a==1)then(
 bif i then(
 some ([116,114,117,101]:SS))
 else(
 some ([102,97,108,115,101]:SS)))
 else(
 bif(a==2)then(
 bnd (bo n b) fun k=>
 some k)
 else(
 bif(a==3)then(
 bnd (bp n j) fun l=>
 some l)
 else(
 bif(a==6)then(
 bnd (bo n b) fun f=>
 chk (decide (((([35,110]:SS).length+f.length:Nat):Int)<=Vr)) (
 some (([35,110]:SS)++f)))
 else(
 bif(a==7)then(
 bnd (bo n b) fun c=>
 chk (decide (((([35,101]:SS).length+c.length:Nat):Int)<=Vr)) (
 some (([35,101]:SS)++c)))
 else(
 bif(a==4)then(
 fR n d g150 a e (a==4))
 else(
 fR n d g150 a e (a==5)))))))
theorem CC (n:Nat) (g150:qe4) (g150_ok:∀ (e:Val) (r:SS),g150 e=some r->qc TP 150 [PV.agg (qS.cells e)] (re r)):∀ (e:Val) (r:SS),nF n g150 e=some r->qc TP 150 [PV.agg (qS.cells e)] (re r):=by
 intro e r h;obtain⟨f,k,o,q,d,i⟩:=e;unfold nF at h;refine zN Tryz.call150 Tryz.func150 [1000000] ?_;conv=>whnf
 apply ifc h<;>intro b h
 ·conv=>whnf
  apply ifc h<;>intro b h
  ·obtain rfl:=sj h
   conv=>whnf
   try exact fin
  obtain rfl:=sj h;conv=>whnf
  try exact fin
 conv=>whnf
 apply ifc h<;>intro b h
 ·conv=>whnf
  refine bq h fun _ v h=>⟨_,(QY n _ _ v),?_⟩;obtain rfl:=sj h;conv=>whnf
  try exact fin
 conv=>whnf
 apply ifc h<;>intro b h
 ·conv=>whnf
  refine bq h fun _ H h=>⟨_,(Xv n _ _ H),?_⟩;obtain rfl:=sj h;conv=>whnf
  try exact fin
 conv=>whnf
 apply ifc h<;>intro b h
 ·conv=>whnf
  refine bq h fun Q J h=>⟨_,(QY n _ _ J),?_⟩;conv=>whnf
  obtain⟨I,h⟩:=qg h;refine⟨(kod I:((([35,110]:SS).length+Q.length:Nat):Int)<=Vr),?_⟩;obtain rfl:=sj h;conv=>whnf
  try exact fin
 conv=>whnf
 apply ifc h<;>intro b h
 ·conv=>whnf
  refine bq h fun P L h=>⟨_,(QY n _ _ L),?_⟩;conv=>whnf
  obtain⟨K,h⟩:=qg h;refine⟨(kod K:((([35,101]:SS).length+P.length:Nat):Int)<=Vr),?_⟩;obtain rfl:=sj h;conv=>whnf
  try exact fin
 conv=>whnf
 refine mw.cut (S:=Bool) (fun j=>[(1,.ptr 0 0),(35,pB j)]) (fun j=>[.box 25 [pI f,pB k,pI o,pS q,pV d,pT i]]) (fR n d g150 f i) (r:=r) ?_ ?_
 ·intro j h
  unfold fR at h;conv=>whnf
  apply ifc h<;>intro b h
  ·conv=>whnf
   refine zj.fn [1000000] (S:=List SS×Int) (fun(a,g)=>[(1,.ptr 0 0),(3,.tsl 1 (qi a)),(39,pV d),(40,.p (.int .i64 ((Val.rows d).length:Int))),(41,pI g)]) (fun(a,g)=>[.box 25 [pI f,pB k,pI o,pS q,pV d,pT i],.tail 9 1 (qi a).length]) (B:=nr n d g150 f i) h (wk [0,0] [1]) ?_;intro O st h;obtain⟨a,g⟩:=st;unfold nr at h;conv=>whnf
   apply ifc h<;>intro b h
   ·conv=>whnf
    refine bq h fun⟨_,_,_,_,_,_⟩ z h=>⟨_,Codec.at_ qS z,?_⟩;(conv=>whnf);refine bq h fun l y h=>⟨_,(g150_ok _ _ y),?_⟩;(conv=>whnf);refine mw.cut (S:=SS) (fun c=>[(1,.ptr 0 0),(3,.tsl 1 (qi a)),(6,pS c),(39,pV d),(40,.p (.int .i64 ((Val.rows d).length:Int))),(41,pI g)]) (fun c=>[.box 25 [pI f,pB k,pI o,pS q,pV d,pT i],.tail 9 1 (qi a).length]) (fS n a O g) (r:=r) ?_ ?_
    ·intro c h
     unfold fS at h;(conv=>whnf);refine⟨Codec.one ca [c],qi [c],.inl rfl,?_⟩;(conv=>whnf);rw[show qi a++qi [c]=qi (a++[c])from Codec.append ca a [c]];(conv=>whnf);obtain⟨s,h⟩:=qg h;refine⟨⟨Codec.wide ca (a++[c]),kod s,zy s (by decide)⟩,?_⟩;(conv=>whnf);refine⟨⟨rfl,rfl,rfl⟩,?_⟩;(conv=>whnf);exact⟨((a++[c]),(kwr .i64 (g+1))),h,wk [0,2] []⟩
    (conv=>whnf);refine⟨id,?_⟩
    (conv=>whnf);refine⟨id,id,id,id,?_⟩
    (conv=>whnf);apply ifc h<;>intro b h
    ·conv=>whnf
     refine bq h fun _ x h=>⟨_,Codec.at_ ca x,?_⟩;(conv=>whnf);refine bq h fun m w h=>⟨_,(Hz n _ _ w),?_⟩;(conv=>whnf);obtain⟨N,h⟩:=qg h;refine⟨(kod N:((m.length+([58,32]:SS).length:Nat):Int)<=Vr),?_⟩;(conv=>whnf);obtain⟨M,h⟩:=qg h;refine⟨(kod M:(((m++([58,32]:SS)).length+l.length:Nat):Int)<=Vr),?_⟩;(conv=>whnf);exact⟨((m++([58,32]:SS))++l),h,wk [0,1] []⟩
    (conv=>whnf);exact⟨l,h,wk [0,1] []⟩
   conv=>whnf
   apply ifc h<;>intro b h
   ·conv=>whnf
    refine bq h fun t D h=>⟨_,(Qk n _ _ _ D),?_⟩;(conv=>whnf);obtain⟨C,h⟩:=qg h;refine⟨(kod C:((([123]:SS).length+t.length:Nat):Int)<=Vr),?_⟩;(conv=>whnf);obtain⟨A,h⟩:=qg h;refine⟨(kod A:(((([123]:SS)++t).length+([125]:SS).length:Nat):Int)<=Vr),?_⟩;obtain rfl:=sj h;conv=>whnf
    try exact fin
   conv=>whnf
   refine bq h fun u G h=>⟨_,(Qk n _ _ _ G),?_⟩;conv=>whnf
   obtain⟨F,h⟩:=qg h;refine⟨(kod F:((([91]:SS).length+u.length:Nat):Int)<=Vr),?_⟩;conv=>whnf
   obtain⟨E,h⟩:=qg h;refine⟨(kod E:(((([91]:SS)++u).length+([93]:SS).length:Nat):Int)<=Vr),?_⟩;obtain rfl:=sj h;conv=>whnf
   try exact fin
  obtain rfl:=sj h;conv=>whnf
  try exact fin
 conv=>whnf
 apply ifc h<;>intro b h
 ·conv=>whnf
  exact⟨(f==4),h,wk [0] []⟩
 conv=>whnf
 exact⟨(f==5),h,wk [0] []⟩
def cJ:Nat->Val->Option SS
 | 0=>fun _=>none
 | n+1=>nF n (cJ n)
theorem CW (n:Nat):(∀ (a:Val) (r:SS),cJ n a=some r->qc TP 150 [PV.agg (qS.cells a)] (re r)):=by
 induction n with
 | zero=>exact(by intros; rename_i h; cases h)
 | succ n ih=>
  have hg150:=ih;exact CC n (cJ n) hg150
theorem DB (n:Nat):∀ (a:Val) (r:SS),cJ n a=some r->qc TP 150 [PV.agg (qS.cells a)] (re r):=(CW n)
abbrev Ed (r:Val×Int):PV:=PV.tup [PV.agg (qS.cells r.1),PV.int .i64 r.2]
def nO (n:Nat) (g:Val):Option (Val×Int):=
 match g with
 | ⟨a,b,c,d,e,f⟩=>
 bif(a==3)then(
 some (Val.mk a b c d e f,(0:Int)))
 else(
 bnd (cJ n (Val.mk a b c d e f)) fun v=>
 bnd (gJ n v) fun⟨w,x,i,j,k,l⟩=>
 bnd (gH n (Val.mk w x i j k l)) fun⟨⟨m,o,p,q,s,t⟩,u⟩=>
 some (Val.mk m o p q s t,u))
theorem CV (n:Nat):∀ (a:Val) (r:Val×Int),nO n a=some r->qc TP 110 [PV.agg (qS.cells a)] (Ed r):=by
 intro a r h;obtain⟨_,_,_,_,_,_⟩:=a;unfold nO at h;refine zN Tryz.call110 Tryz.func110 [1000000] ?_;conv=>whnf
 apply ifc h<;>intro _ h
 ·obtain rfl:=sj h
  conv=>whnf
  try exact fin
 conv=>whnf
 refine bq h fun _ d h=>⟨_,(DB n _ _ d),?_⟩;conv=>whnf
 refine bq h fun⟨_,_,_,_,_,_⟩ c h=>⟨_,(nm n _ _ c),?_⟩;conv=>whnf
 refine bq h fun⟨⟨_,_,_,_,_,_⟩,_⟩ b h=>⟨_,(nj n _ _ b),?_⟩;obtain rfl:=sj h;conv=>whnf
 try exact fin
end W
end
section
set_option maxRecDepth 100000
set_option maxHeartbeats 4000000
open Go Go.Proofs Ax
namespace W
abbrev VS (r:Val×Int):PV:=PV.tup [PV.agg (qS.cells r.1),PV.int .i64 r.2]
def xh (n:Nat) (q:xa) (b:SS) (a:List Val):Option (Val×Int):=
 match q with
 | ⟨⟨d,f⟩,⟨g,i⟩,⟨j,k,l,m,o,e⟩⟩=>
 bnd (qn n a) fun c=>
 bif(bif(b==([99,111,97,108,101,115,99,101]:SS))then(decide (((Val.rows a).length:Int)>0))else false)then(
 bnd (qF n a) fun p=>
 bnd (idx a (bif decide ((0:Int)>p)then(0:Int)else p)) fun⟨b0,b1,b2,b3,b4,b5⟩=>
 some (Val.mk b0 b1 b2 b3 b4 b5,(0:Int)))
 else(
 bif(bif(b==([114,97,110,103,101]:SS))then(((Val.rows a).length:Int)==2)else false)then(
 bif c then(
 some (Val.mk (0:Int) false (0:Int) ([]:SS) ([]:List Val) ([]:List SS),(0:Int)))
 else(
 bnd (idx a (0:Int)) fun⟨b6,b7,b8,b9,c0,c1⟩=>
 bnd (idx a (1:Int)) fun⟨c2,c3,c4,c5,c6,c7⟩=>
 bnd (sd n (Val.mk b6 b7 b8 b9 c0 c1) (Val.mk c2 c3 c4 c5 c6 c7)) fun⟨⟨c8,c9,d0,d1,d2,d3⟩,d4⟩=>
 some (Val.mk c8 c9 d0 d1 d2 d3,d4)))
 else(
 bif(((Val.rows a).length:Int) != 1)then(
 some (Val.mk (0:Int) false (0:Int) ([]:SS) ([]:List Val) ([]:List SS),(2:Int)))
 else(
 bif(b==([115,105,122,101]:SS))then(
 bif c then(
 some (Val.mk (0:Int) false (0:Int) ([]:SS) ([]:List Val) ([]:List SS),(0:Int)))
 else(
 bnd (idx a (0:Int)) fun⟨X,Y,Z,a0,a1,a2⟩=>
 bnd (mK n (Val.mk X Y Z a0 a1 a2)) fun⟨⟨a3,a4,a5,a6,a7,a8⟩,a9⟩=>
 some (Val.mk a3 a4 a5 a6 a7 a8,a9)))
 else(
 bif(b==([97,98,115]:SS))then(
 bif c then(
 some (Val.mk (0:Int) false (0:Int) ([]:SS) ([]:List Val) ([]:List SS),(0:Int)))
 else(
 bnd (idx a (0:Int)) fun⟨K,L,M,N,O,P⟩=>
 bnd (uv n (Val.mk K L M N O P)) fun⟨⟨Q,R,S,T,U,V⟩,W⟩=>
 some (Val.mk Q R S T U V,W)))
 else(
 bif(b==([107,101,121,115]:SS))then(
 bif c then(
 some (Val.mk (0:Int) false (0:Int) ([]:SS) ([]:List Val) ([]:List SS),(0:Int)))
 else(
 bnd (idx a (0:Int)) fun⟨x,y,z,A,B,C⟩=>
 bnd (gZ n (xa.mk (Env.mk d f) (Graph.mk g i) (Val.mk j k l m o e)) (Val.mk x y z A B C)) fun⟨⟨D,E,F,G,H,I⟩,J⟩=>
 some (Val.mk D E F G H I,J)))
 else(
 bif(b==([108,97,98,101,108,115]:SS))then(
 bif c then(
 some (Val.mk (0:Int) false (0:Int) ([]:SS) ([]:List Val) ([]:List SS),(0:Int)))
 else(
 bnd (idx a (0:Int)) fun⟨j7,j8,j9,k0,k1,k2⟩=>
 bnd (gP n (Val.mk j7 j8 j9 k0 k1 k2) (xa.mk (Env.mk d f) (Graph.mk g i) (Val.mk j k l m o e))) fun⟨⟨k3,k4,s,t,u,v⟩,w⟩=>
 some (Val.mk k3 k4 s t u v,w)))
 else(
 bif(b==([116,121,112,101]:SS))then(
 bif c then(
 some (Val.mk (0:Int) false (0:Int) ([]:SS) ([]:List Val) ([]:List SS),(0:Int)))
 else(
 bnd (idx a (0:Int)) fun⟨i4,i5,i6,i7,i8,i9⟩=>
 bnd (gQ n (Val.mk i4 i5 i6 i7 i8 i9) (xa.mk (Env.mk d f) (Graph.mk g i) (Val.mk j k l m o e))) fun⟨⟨j0,j1,j2,j3,j4,j5⟩,j6⟩=>
 some (Val.mk j0 j1 j2 j3 j4 j5,j6)))
 else(
 bif(b==([104,101,97,100]:SS))then(
 bif c then(
 some (Val.mk (0:Int) false (0:Int) ([]:SS) ([]:List Val) ([]:List SS),(0:Int)))
 else(
 bnd (idx a (0:Int)) fun⟨g1,g2,g3,g4,g5,g6⟩=>
 bnd (uw n (Val.mk g1 g2 g3 g4 g5 g6)) fun⟨⟨g7,g8,g9,i0,i1,i2⟩,i3⟩=>
 some (Val.mk g7 g8 g9 i0 i1 i2,i3)))
 else(
 bif(b==([108,97,115,116]:SS))then(
 bif c then(
 some (Val.mk (0:Int) false (0:Int) ([]:SS) ([]:List Val) ([]:List SS),(0:Int)))
 else(
 bnd (idx a (0:Int)) fun⟨e8,e9,f0,f1,f2,f3⟩=>
 bnd (ux n (Val.mk e8 e9 f0 f1 f2 f3)) fun⟨⟨f4,f5,f6,f7,f8,f9⟩,g0⟩=>
 some (Val.mk f4 f5 f6 f7 f8 f9,g0)))
 else(
 bif(b==([116,101,120,116]:SS))then(
 bif c then(
 some (Val.mk (0:Int) false (0:Int) ([]:SS) ([]:List Val) ([]:List SS),(0:Int)))
 else(
 bnd (idx a (0:Int)) fun⟨d5,d6,d7,d8,d9,e0⟩=>
 bnd (nO n (Val.mk d5 d6 d7 d8 d9 e0)) fun⟨⟨e1,e2,e3,e4,e5,e6⟩,e7⟩=>
 some (Val.mk e1 e2 e3 e4 e5 e6,e7)))
 else(
 some (Val.mk (0:Int) false (0:Int) ([]:SS) ([]:List Val) ([]:List SS),(2:Int)))))))))))))
theorem Vj (n:Nat):∀ (o:xa) (m:SS) (p:List Val) (r:Val×Int),xh n o m p=some r->qc TP 63 [(PV.hp (nX.cells o)),PV.str m,PV.sl (Val.rows p)] (VS r):=by
 intro o m p r h;obtain⟨⟨a,c⟩,⟨d,e⟩,⟨f,g,i,j,k,b⟩⟩:=o;unfold xh at h;refine zN Tryz.call63 Tryz.func63 [10000003,1000000] ?_;conv=>whnf
 replace h:=RL h;obtain⟨_,G,h⟩:=h;refine⟨_,(vm n _ _ G),?_⟩;conv=>whnf
 refine⟨id,id,id,?_⟩;conv=>whnf
 refine⟨fun l=>?_,fun l=>?_⟩
 ·replace h:=mC h l
  conv=>whnf
  replace h:=RL h;obtain⟨_,D,h⟩:=h;refine⟨_,(vM n _ _ D),?_⟩;conv=>whnf
  replace h:=RL h;obtain⟨⟨_,_,_,_,_,_⟩,q,h⟩:=h;refine⟨_,Codec.at_ qS q,?_⟩;obtain rfl:=sj h;conv=>whnf
  try exact fin
 replace h:=gf h l;conv=>whnf
 refine⟨id,id,id,?_⟩;conv=>whnf
 refine⟨fun l=>?_,fun l=>?_⟩
 ·replace h:=mC h l
  conv=>whnf
  refine⟨fun l=>?_,fun l=>?_⟩
  ·replace h:=mC h l
   obtain rfl:=sj h;conv=>whnf
   try exact fin
  replace h:=gf h l;conv=>whnf
  replace h:=RL h;obtain⟨⟨_,_,_,_,_,_⟩,J,h⟩:=h;refine⟨_,Codec.at_ qS J,?_⟩;conv=>whnf
  replace h:=RL h;obtain⟨⟨_,_,_,_,_,_⟩,I,h⟩:=h;refine⟨_,Codec.at_ qS I,?_⟩;conv=>whnf
  replace h:=RL h;obtain⟨⟨⟨_,_,_,_,_,_⟩,_⟩,H,h⟩:=h;refine⟨_,(Dw n _ _ _ H),?_⟩;obtain rfl:=sj h;conv=>whnf
  try exact fin
 replace h:=gf h l;conv=>whnf
 refine⟨fun l=>?_,fun l=>?_⟩
 ·replace h:=mC h l
  obtain rfl:=sj h;conv=>whnf
  try exact fin
 replace h:=gf h l;conv=>whnf
 refine⟨_,ri fl (fun x=>x) ([115,105,122,101]:SS) (PV.fn 100) ([]:List (SS×PV)),?_⟩;conv=>whnf
 refine⟨_,ri fl (fun x=>x) ([97,98,115]:SS) (PV.fn 101) (xH ([115,105,122,101]:SS) (PV.fn 100) ([]:List (SS×PV))),?_⟩;conv=>whnf
 refine⟨_,ri fl (fun x=>x) ([107,101,121,115]:SS) (PV.bfn 103 [PV.hp [PV.sl (qi a),PV.sl (Val.rows c),PV.sl (Node.rows d),PV.sl (Edge.rows e),PV.int .i64 f,PV.bool g,PV.int .i64 i,PV.str j,PV.sl (Val.rows k),PV.sl (qi b)]]) zq5,?_⟩;conv=>whnf
 refine⟨_,ri fl (fun x=>x) ([108,97,98,101,108,115]:SS) (PV.clo 104 [PV.hp [PV.hp [PV.sl (qi a),PV.sl (Val.rows c),PV.sl (Node.rows d),PV.sl (Edge.rows e),PV.int .i64 f,PV.bool g,PV.int .i64 i,PV.str j,PV.sl (Val.rows k),PV.sl (qi b)]]]) (xH ([107,101,121,115]:SS) (PV.bfn 103 [PV.hp [PV.sl (qi a),PV.sl (Val.rows c),PV.sl (Node.rows d),PV.sl (Edge.rows e),PV.int .i64 f,PV.bool g,PV.int .i64 i,PV.str j,PV.sl (Val.rows k),PV.sl (qi b)]]) zq5),?_⟩;conv=>whnf
 refine⟨_,ri fl (fun x=>x) ([116,121,112,101]:SS) (PV.clo 106 [PV.hp [PV.hp [PV.sl (qi a),PV.sl (Val.rows c),PV.sl (Node.rows d),PV.sl (Edge.rows e),PV.int .i64 f,PV.bool g,PV.int .i64 i,PV.str j,PV.sl (Val.rows k),PV.sl (qi b)]]]) (xH ([108,97,98,101,108,115]:SS) (PV.clo 104 [PV.hp [PV.hp [PV.sl (qi a),PV.sl (Val.rows c),PV.sl (Node.rows d),PV.sl (Edge.rows e),PV.int .i64 f,PV.bool g,PV.int .i64 i,PV.str j,PV.sl (Val.rows k),PV.sl (qi b)]]]) (xH ([107,101,121,115]:SS) (PV.bfn 103 [PV.hp [PV.sl (qi a),PV.sl (Val.rows c),PV.sl (Node.rows d),PV.sl (Edge.rows e),PV.int .i64 f,PV.bool g,PV.int .i64 i,PV.str j,PV.sl (Val.rows k),PV.sl (qi b)]]) zq5)),?_⟩;conv=>whnf
 refine⟨_,ri fl (fun x=>x) ([104,101,97,100]:SS) (PV.fn 107) (xH ([116,121,112,101]:SS) (PV.clo 106 [PV.hp [PV.hp [PV.sl (qi a),PV.sl (Val.rows c),PV.sl (Node.rows d),PV.sl (Edge.rows e),PV.int .i64 f,PV.bool g,PV.int .i64 i,PV.str j,PV.sl (Val.rows k),PV.sl (qi b)]]]) (xH ([108,97,98,101,108,115]:SS) (PV.clo 104 [PV.hp [PV.hp [PV.sl (qi a),PV.sl (Val.rows c),PV.sl (Node.rows d),PV.sl (Edge.rows e),PV.int .i64 f,PV.bool g,PV.int .i64 i,PV.str j,PV.sl (Val.rows k),PV.sl (qi b)]]]) (xH ([107,101,121,115]:SS) (PV.bfn 103 [PV.hp [PV.sl (qi a),PV.sl (Val.rows c),PV.sl (Node.rows d),PV.sl (Edge.rows e),PV.int .i64 f,PV.bool g,PV.int .i64 i,PV.str j,PV.sl (Val.rows k),PV.sl (qi b)]]) zq5))),?_⟩;conv=>whnf
 refine⟨_,ri fl (fun x=>x) ([108,97,115,116]:SS) (PV.fn 109) (xH ([104,101,97,100]:SS) (PV.fn 107) (xH ([116,121,112,101]:SS) (PV.clo 106 [PV.hp [PV.hp [PV.sl (qi a),PV.sl (Val.rows c),PV.sl (Node.rows d),PV.sl (Edge.rows e),PV.int .i64 f,PV.bool g,PV.int .i64 i,PV.str j,PV.sl (Val.rows k),PV.sl (qi b)]]]) (xH ([108,97,98,101,108,115]:SS) (PV.clo 104 [PV.hp [PV.hp [PV.sl (qi a),PV.sl (Val.rows c),PV.sl (Node.rows d),PV.sl (Edge.rows e),PV.int .i64 f,PV.bool g,PV.int .i64 i,PV.str j,PV.sl (Val.rows k),PV.sl (qi b)]]]) (xH ([107,101,121,115]:SS) (PV.bfn 103 [PV.hp [PV.sl (qi a),PV.sl (Val.rows c),PV.sl (Node.rows d),PV.sl (Edge.rows e),PV.int .i64 f,PV.bool g,PV.int .i64 i,PV.str j,PV.sl (Val.rows k),PV.sl (qi b)]]) zq5)))),?_⟩;conv=>whnf
 refine⟨_,ri fl (fun x=>x) ([116,101,120,116]:SS) (PV.fn 110) (xH ([108,97,115,116]:SS) (PV.fn 109) (xH ([104,101,97,100]:SS) (PV.fn 107) (xH ([116,121,112,101]:SS) (PV.clo 106 [PV.hp [PV.hp [PV.sl (qi a),PV.sl (Val.rows c),PV.sl (Node.rows d),PV.sl (Edge.rows e),PV.int .i64 f,PV.bool g,PV.int .i64 i,PV.str j,PV.sl (Val.rows k),PV.sl (qi b)]]]) (xH ([108,97,98,101,108,115]:SS) (PV.clo 104 [PV.hp [PV.hp [PV.sl (qi a),PV.sl (Val.rows c),PV.sl (Node.rows d),PV.sl (Edge.rows e),PV.int .i64 f,PV.bool g,PV.int .i64 i,PV.str j,PV.sl (Val.rows k),PV.sl (qi b)]]]) (xH ([107,101,121,115]:SS) (PV.bfn 103 [PV.hp [PV.sl (qi a),PV.sl (Val.rows c),PV.sl (Node.rows d),PV.sl (Edge.rows e),PV.int .i64 f,PV.bool g,PV.int .i64 i,PV.str j,PV.sl (Val.rows k),PV.sl (qi b)]]) zq5))))),?_⟩;by_cases HK0:(m==([115,105,122,101]:SS))=true
 ·replace h:=mC h HK0
  obtain rfl:m=([115,105,122,101]:SS):=by simpa using HK0
  conv=>whnf
  refine⟨PV.fn 100,_,⟨UI fl (fun x=>x) (xH ([116,101,120,116]:SS) (PV.fn 110) (xH ([108,97,115,116]:SS) (PV.fn 109) (xH ([104,101,97,100]:SS) (PV.fn 107) (xH ([116,121,112,101]:SS) (PV.clo 106 [PV.hp [PV.hp [PV.sl (qi a),PV.sl (Val.rows c),PV.sl (Node.rows d),PV.sl (Edge.rows e),PV.int .i64 f,PV.bool g,PV.int .i64 i,PV.str j,PV.sl (Val.rows k),PV.sl (qi b)]]]) (xH ([108,97,98,101,108,115]:SS) (PV.clo 104 [PV.hp [PV.hp [PV.sl (qi a),PV.sl (Val.rows c),PV.sl (Node.rows d),PV.sl (Edge.rows e),PV.int .i64 f,PV.bool g,PV.int .i64 i,PV.str j,PV.sl (Val.rows k),PV.sl (qi b)]]]) (xH ([107,101,121,115]:SS) (PV.bfn 103 [PV.hp [PV.sl (qi a),PV.sl (Val.rows c),PV.sl (Node.rows d),PV.sl (Edge.rows e),PV.int .i64 f,PV.bool g,PV.int .i64 i,PV.str j,PV.sl (Val.rows k),PV.sl (qi b)]]) zq5)))))) ([115,105,122,101]:SS) PV.nilfn,UJ fl (fun x=>x) (xH ([116,101,120,116]:SS) (PV.fn 110) (xH ([108,97,115,116]:SS) (PV.fn 109) (xH ([104,101,97,100]:SS) (PV.fn 107) (xH ([116,121,112,101]:SS) (PV.clo 106 [PV.hp [PV.hp [PV.sl (qi a),PV.sl (Val.rows c),PV.sl (Node.rows d),PV.sl (Edge.rows e),PV.int .i64 f,PV.bool g,PV.int .i64 i,PV.str j,PV.sl (Val.rows k),PV.sl (qi b)]]]) (xH ([108,97,98,101,108,115]:SS) (PV.clo 104 [PV.hp [PV.hp [PV.sl (qi a),PV.sl (Val.rows c),PV.sl (Node.rows d),PV.sl (Edge.rows e),PV.int .i64 f,PV.bool g,PV.int .i64 i,PV.str j,PV.sl (Val.rows k),PV.sl (qi b)]]]) (xH ([107,101,121,115]:SS) (PV.bfn 103 [PV.hp [PV.sl (qi a),PV.sl (Val.rows c),PV.sl (Node.rows d),PV.sl (Edge.rows e),PV.int .i64 f,PV.bool g,PV.int .i64 i,PV.str j,PV.sl (Val.rows k),PV.sl (qi b)]]) zq5)))))) ([115,105,122,101]:SS)⟩,?_⟩;conv=>whnf
  refine⟨fun hf=>absurd hf (by first|decide|simp),fun _=>?_⟩;conv=>whnf
  refine⟨fun l=>?_,fun l=>?_⟩
  ·replace h:=mC h l
   obtain rfl:=sj h;conv=>whnf
   try exact fin
  replace h:=gf h l;conv=>whnf
  replace h:=RL h;obtain⟨⟨_,_,_,_,_,_⟩,F,h⟩:=h;refine⟨_,Codec.at_ qS F,?_⟩;conv=>whnf
  replace h:=RL h;obtain⟨⟨⟨_,_,_,_,_,_⟩,_⟩,E,h⟩:=h;refine⟨_,(Dv n _ _ E),?_⟩;obtain rfl:=sj h;conv=>whnf
  try exact fin
 replace h:=gf h (by simpa using HK0);by_cases HK1:(m==([97,98,115]:SS))=true
 ·replace h:=mC h HK1
  obtain rfl:m=([97,98,115]:SS):=by simpa using HK1
  conv=>whnf
  refine⟨PV.fn 101,_,⟨UI fl (fun x=>x) (xH ([116,101,120,116]:SS) (PV.fn 110) (xH ([108,97,115,116]:SS) (PV.fn 109) (xH ([104,101,97,100]:SS) (PV.fn 107) (xH ([116,121,112,101]:SS) (PV.clo 106 [PV.hp [PV.hp [PV.sl (qi a),PV.sl (Val.rows c),PV.sl (Node.rows d),PV.sl (Edge.rows e),PV.int .i64 f,PV.bool g,PV.int .i64 i,PV.str j,PV.sl (Val.rows k),PV.sl (qi b)]]]) (xH ([108,97,98,101,108,115]:SS) (PV.clo 104 [PV.hp [PV.hp [PV.sl (qi a),PV.sl (Val.rows c),PV.sl (Node.rows d),PV.sl (Edge.rows e),PV.int .i64 f,PV.bool g,PV.int .i64 i,PV.str j,PV.sl (Val.rows k),PV.sl (qi b)]]]) (xH ([107,101,121,115]:SS) (PV.bfn 103 [PV.hp [PV.sl (qi a),PV.sl (Val.rows c),PV.sl (Node.rows d),PV.sl (Edge.rows e),PV.int .i64 f,PV.bool g,PV.int .i64 i,PV.str j,PV.sl (Val.rows k),PV.sl (qi b)]]) zq5)))))) ([97,98,115]:SS) PV.nilfn,UJ fl (fun x=>x) (xH ([116,101,120,116]:SS) (PV.fn 110) (xH ([108,97,115,116]:SS) (PV.fn 109) (xH ([104,101,97,100]:SS) (PV.fn 107) (xH ([116,121,112,101]:SS) (PV.clo 106 [PV.hp [PV.hp [PV.sl (qi a),PV.sl (Val.rows c),PV.sl (Node.rows d),PV.sl (Edge.rows e),PV.int .i64 f,PV.bool g,PV.int .i64 i,PV.str j,PV.sl (Val.rows k),PV.sl (qi b)]]]) (xH ([108,97,98,101,108,115]:SS) (PV.clo 104 [PV.hp [PV.hp [PV.sl (qi a),PV.sl (Val.rows c),PV.sl (Node.rows d),PV.sl (Edge.rows e),PV.int .i64 f,PV.bool g,PV.int .i64 i,PV.str j,PV.sl (Val.rows k),PV.sl (qi b)]]]) (xH ([107,101,121,115]:SS) (PV.bfn 103 [PV.hp [PV.sl (qi a),PV.sl (Val.rows c),PV.sl (Node.rows d),PV.sl (Edge.rows e),PV.int .i64 f,PV.bool g,PV.int .i64 i,PV.str j,PV.sl (Val.rows k),PV.sl (qi b)]]) zq5)))))) ([97,98,115]:SS)⟩,?_⟩;conv=>whnf
  refine⟨fun hf=>absurd hf (by first|decide|simp),fun _=>?_⟩;conv=>whnf
  refine⟨fun l=>?_,fun l=>?_⟩
  ·replace h:=mC h l
   obtain rfl:=sj h;conv=>whnf
   try exact fin
  replace h:=gf h l;conv=>whnf
  replace h:=RL h;obtain⟨⟨_,_,_,_,_,_⟩,C,h⟩:=h;refine⟨_,Codec.at_ qS C,?_⟩;conv=>whnf
  replace h:=RL h;obtain⟨⟨⟨_,_,_,_,_,_⟩,_⟩,B,h⟩:=h;refine⟨_,(QQ n _ _ B),?_⟩;obtain rfl:=sj h;conv=>whnf
  try exact fin
 replace h:=gf h (by simpa using HK1);by_cases HK2:(m==([107,101,121,115]:SS))=true
 ·replace h:=mC h HK2
  obtain rfl:m=([107,101,121,115]:SS):=by simpa using HK2
  conv=>whnf
  refine⟨PV.bfn 103 [PV.hp [PV.sl (qi a),PV.sl (Val.rows c),PV.sl (Node.rows d),PV.sl (Edge.rows e),PV.int .i64 f,PV.bool g,PV.int .i64 i,PV.str j,PV.sl (Val.rows k),PV.sl (qi b)]],_,⟨UI fl (fun x=>x) (xH ([116,101,120,116]:SS) (PV.fn 110) (xH ([108,97,115,116]:SS) (PV.fn 109) (xH ([104,101,97,100]:SS) (PV.fn 107) (xH ([116,121,112,101]:SS) (PV.clo 106 [PV.hp [PV.hp [PV.sl (qi a),PV.sl (Val.rows c),PV.sl (Node.rows d),PV.sl (Edge.rows e),PV.int .i64 f,PV.bool g,PV.int .i64 i,PV.str j,PV.sl (Val.rows k),PV.sl (qi b)]]]) (xH ([108,97,98,101,108,115]:SS) (PV.clo 104 [PV.hp [PV.hp [PV.sl (qi a),PV.sl (Val.rows c),PV.sl (Node.rows d),PV.sl (Edge.rows e),PV.int .i64 f,PV.bool g,PV.int .i64 i,PV.str j,PV.sl (Val.rows k),PV.sl (qi b)]]]) (xH ([107,101,121,115]:SS) (PV.bfn 103 [PV.hp [PV.sl (qi a),PV.sl (Val.rows c),PV.sl (Node.rows d),PV.sl (Edge.rows e),PV.int .i64 f,PV.bool g,PV.int .i64 i,PV.str j,PV.sl (Val.rows k),PV.sl (qi b)]]) zq5)))))) ([107,101,121,115]:SS) PV.nilfn,UJ fl (fun x=>x) (xH ([116,101,120,116]:SS) (PV.fn 110) (xH ([108,97,115,116]:SS) (PV.fn 109) (xH ([104,101,97,100]:SS) (PV.fn 107) (xH ([116,121,112,101]:SS) (PV.clo 106 [PV.hp [PV.hp [PV.sl (qi a),PV.sl (Val.rows c),PV.sl (Node.rows d),PV.sl (Edge.rows e),PV.int .i64 f,PV.bool g,PV.int .i64 i,PV.str j,PV.sl (Val.rows k),PV.sl (qi b)]]]) (xH ([108,97,98,101,108,115]:SS) (PV.clo 104 [PV.hp [PV.hp [PV.sl (qi a),PV.sl (Val.rows c),PV.sl (Node.rows d),PV.sl (Edge.rows e),PV.int .i64 f,PV.bool g,PV.int .i64 i,PV.str j,PV.sl (Val.rows k),PV.sl (qi b)]]]) (xH ([107,101,121,115]:SS) (PV.bfn 103 [PV.hp [PV.sl (qi a),PV.sl (Val.rows c),PV.sl (Node.rows d),PV.sl (Edge.rows e),PV.int .i64 f,PV.bool g,PV.int .i64 i,PV.str j,PV.sl (Val.rows k),PV.sl (qi b)]]) zq5)))))) ([107,101,121,115]:SS)⟩,?_⟩;conv=>whnf
  refine⟨fun hf=>absurd hf (by first|decide|simp),fun _=>?_⟩;conv=>whnf
  refine⟨fun l=>?_,fun l=>?_⟩
  ·replace h:=mC h l
   obtain rfl:=sj h;conv=>whnf
   try exact fin
  replace h:=gf h l;conv=>whnf
  replace h:=RL h;obtain⟨⟨_,_,_,_,_,_⟩,A,h⟩:=h;refine⟨_,Codec.at_ qS A,?_⟩;conv=>whnf
  replace h:=RL h;obtain⟨⟨⟨_,_,_,_,_,_⟩,_⟩,z,h⟩:=h;refine⟨_,(Vl n _ _ _ z),?_⟩;obtain rfl:=sj h;conv=>whnf
  try exact fin
 replace h:=gf h (by simpa using HK2);by_cases HK3:(m==([108,97,98,101,108,115]:SS))=true
 ·replace h:=mC h HK3
  obtain rfl:m=([108,97,98,101,108,115]:SS):=by simpa using HK3
  conv=>whnf
  refine⟨PV.clo 104 [PV.hp [PV.hp [PV.sl (qi a),PV.sl (Val.rows c),PV.sl (Node.rows d),PV.sl (Edge.rows e),PV.int .i64 f,PV.bool g,PV.int .i64 i,PV.str j,PV.sl (Val.rows k),PV.sl (qi b)]]],_,⟨UI fl (fun x=>x) (xH ([116,101,120,116]:SS) (PV.fn 110) (xH ([108,97,115,116]:SS) (PV.fn 109) (xH ([104,101,97,100]:SS) (PV.fn 107) (xH ([116,121,112,101]:SS) (PV.clo 106 [PV.hp [PV.hp [PV.sl (qi a),PV.sl (Val.rows c),PV.sl (Node.rows d),PV.sl (Edge.rows e),PV.int .i64 f,PV.bool g,PV.int .i64 i,PV.str j,PV.sl (Val.rows k),PV.sl (qi b)]]]) (xH ([108,97,98,101,108,115]:SS) (PV.clo 104 [PV.hp [PV.hp [PV.sl (qi a),PV.sl (Val.rows c),PV.sl (Node.rows d),PV.sl (Edge.rows e),PV.int .i64 f,PV.bool g,PV.int .i64 i,PV.str j,PV.sl (Val.rows k),PV.sl (qi b)]]]) (xH ([107,101,121,115]:SS) (PV.bfn 103 [PV.hp [PV.sl (qi a),PV.sl (Val.rows c),PV.sl (Node.rows d),PV.sl (Edge.rows e),PV.int .i64 f,PV.bool g,PV.int .i64 i,PV.str j,PV.sl (Val.rows k),PV.sl (qi b)]]) zq5)))))) ([108,97,98,101,108,115]:SS) PV.nilfn,UJ fl (fun x=>x) (xH ([116,101,120,116]:SS) (PV.fn 110) (xH ([108,97,115,116]:SS) (PV.fn 109) (xH ([104,101,97,100]:SS) (PV.fn 107) (xH ([116,121,112,101]:SS) (PV.clo 106 [PV.hp [PV.hp [PV.sl (qi a),PV.sl (Val.rows c),PV.sl (Node.rows d),PV.sl (Edge.rows e),PV.int .i64 f,PV.bool g,PV.int .i64 i,PV.str j,PV.sl (Val.rows k),PV.sl (qi b)]]]) (xH ([108,97,98,101,108,115]:SS) (PV.clo 104 [PV.hp [PV.hp [PV.sl (qi a),PV.sl (Val.rows c),PV.sl (Node.rows d),PV.sl (Edge.rows e),PV.int .i64 f,PV.bool g,PV.int .i64 i,PV.str j,PV.sl (Val.rows k),PV.sl (qi b)]]]) (xH ([107,101,121,115]:SS) (PV.bfn 103 [PV.hp [PV.sl (qi a),PV.sl (Val.rows c),PV.sl (Node.rows d),PV.sl (Edge.rows e),PV.int .i64 f,PV.bool g,PV.int .i64 i,PV.str j,PV.sl (Val.rows k),PV.sl (qi b)]]) zq5)))))) ([108,97,98,101,108,115]:SS)⟩,?_⟩;conv=>whnf
  refine⟨fun hf=>absurd hf (by first|decide|simp),fun _=>?_⟩;conv=>whnf
  refine⟨fun l=>?_,fun l=>?_⟩
  ·replace h:=mC h l
   obtain rfl:=sj h;conv=>whnf
   try exact fin
  replace h:=gf h l;conv=>whnf
  replace h:=RL h;obtain⟨⟨_,_,_,_,_,_⟩,y,h⟩:=h;refine⟨_,Codec.at_ qS y,?_⟩;conv=>whnf
  replace h:=RL h;obtain⟨⟨⟨_,_,_,_,_,_⟩,_⟩,w,h⟩:=h;refine⟨_,(QR n _ _ _ w),?_⟩;obtain rfl:=sj h;conv=>whnf
  try exact fin
 replace h:=gf h (by simpa using HK3);by_cases HK4:(m==([116,121,112,101]:SS))=true
 ·replace h:=mC h HK4
  obtain rfl:m=([116,121,112,101]:SS):=by simpa using HK4
  conv=>whnf
  refine⟨PV.clo 106 [PV.hp [PV.hp [PV.sl (qi a),PV.sl (Val.rows c),PV.sl (Node.rows d),PV.sl (Edge.rows e),PV.int .i64 f,PV.bool g,PV.int .i64 i,PV.str j,PV.sl (Val.rows k),PV.sl (qi b)]]],_,⟨UI fl (fun x=>x) (xH ([116,101,120,116]:SS) (PV.fn 110) (xH ([108,97,115,116]:SS) (PV.fn 109) (xH ([104,101,97,100]:SS) (PV.fn 107) (xH ([116,121,112,101]:SS) (PV.clo 106 [PV.hp [PV.hp [PV.sl (qi a),PV.sl (Val.rows c),PV.sl (Node.rows d),PV.sl (Edge.rows e),PV.int .i64 f,PV.bool g,PV.int .i64 i,PV.str j,PV.sl (Val.rows k),PV.sl (qi b)]]]) (xH ([108,97,98,101,108,115]:SS) (PV.clo 104 [PV.hp [PV.hp [PV.sl (qi a),PV.sl (Val.rows c),PV.sl (Node.rows d),PV.sl (Edge.rows e),PV.int .i64 f,PV.bool g,PV.int .i64 i,PV.str j,PV.sl (Val.rows k),PV.sl (qi b)]]]) (xH ([107,101,121,115]:SS) (PV.bfn 103 [PV.hp [PV.sl (qi a),PV.sl (Val.rows c),PV.sl (Node.rows d),PV.sl (Edge.rows e),PV.int .i64 f,PV.bool g,PV.int .i64 i,PV.str j,PV.sl (Val.rows k),PV.sl (qi b)]]) zq5)))))) ([116,121,112,101]:SS) PV.nilfn,UJ fl (fun x=>x) (xH ([116,101,120,116]:SS) (PV.fn 110) (xH ([108,97,115,116]:SS) (PV.fn 109) (xH ([104,101,97,100]:SS) (PV.fn 107) (xH ([116,121,112,101]:SS) (PV.clo 106 [PV.hp [PV.hp [PV.sl (qi a),PV.sl (Val.rows c),PV.sl (Node.rows d),PV.sl (Edge.rows e),PV.int .i64 f,PV.bool g,PV.int .i64 i,PV.str j,PV.sl (Val.rows k),PV.sl (qi b)]]]) (xH ([108,97,98,101,108,115]:SS) (PV.clo 104 [PV.hp [PV.hp [PV.sl (qi a),PV.sl (Val.rows c),PV.sl (Node.rows d),PV.sl (Edge.rows e),PV.int .i64 f,PV.bool g,PV.int .i64 i,PV.str j,PV.sl (Val.rows k),PV.sl (qi b)]]]) (xH ([107,101,121,115]:SS) (PV.bfn 103 [PV.hp [PV.sl (qi a),PV.sl (Val.rows c),PV.sl (Node.rows d),PV.sl (Edge.rows e),PV.int .i64 f,PV.bool g,PV.int .i64 i,PV.str j,PV.sl (Val.rows k),PV.sl (qi b)]]) zq5)))))) ([116,121,112,101]:SS)⟩,?_⟩;conv=>whnf
  refine⟨fun hf=>absurd hf (by first|decide|simp),fun _=>?_⟩;conv=>whnf
  refine⟨fun l=>?_,fun l=>?_⟩
  ·replace h:=mC h l
   obtain rfl:=sj h;conv=>whnf
   try exact fin
  replace h:=gf h l;conv=>whnf
  replace h:=RL h;obtain⟨⟨_,_,_,_,_,_⟩,v,h⟩:=h;refine⟨_,Codec.at_ qS v,?_⟩;conv=>whnf
  replace h:=RL h;obtain⟨⟨⟨_,_,_,_,_,_⟩,_⟩,u,h⟩:=h;refine⟨_,(QT n _ _ _ u),?_⟩;obtain rfl:=sj h;conv=>whnf
  try exact fin
 replace h:=gf h (by simpa using HK4);by_cases HK5:(m==([104,101,97,100]:SS))=true
 ·replace h:=mC h HK5
  obtain rfl:m=([104,101,97,100]:SS):=by simpa using HK5
  conv=>whnf
  refine⟨PV.fn 107,_,⟨UI fl (fun x=>x) (xH ([116,101,120,116]:SS) (PV.fn 110) (xH ([108,97,115,116]:SS) (PV.fn 109) (xH ([104,101,97,100]:SS) (PV.fn 107) (xH ([116,121,112,101]:SS) (PV.clo 106 [PV.hp [PV.hp [PV.sl (qi a),PV.sl (Val.rows c),PV.sl (Node.rows d),PV.sl (Edge.rows e),PV.int .i64 f,PV.bool g,PV.int .i64 i,PV.str j,PV.sl (Val.rows k),PV.sl (qi b)]]]) (xH ([108,97,98,101,108,115]:SS) (PV.clo 104 [PV.hp [PV.hp [PV.sl (qi a),PV.sl (Val.rows c),PV.sl (Node.rows d),PV.sl (Edge.rows e),PV.int .i64 f,PV.bool g,PV.int .i64 i,PV.str j,PV.sl (Val.rows k),PV.sl (qi b)]]]) (xH ([107,101,121,115]:SS) (PV.bfn 103 [PV.hp [PV.sl (qi a),PV.sl (Val.rows c),PV.sl (Node.rows d),PV.sl (Edge.rows e),PV.int .i64 f,PV.bool g,PV.int .i64 i,PV.str j,PV.sl (Val.rows k),PV.sl (qi b)]]) zq5)))))) ([104,101,97,100]:SS) PV.nilfn,UJ fl (fun x=>x) (xH ([116,101,120,116]:SS) (PV.fn 110) (xH ([108,97,115,116]:SS) (PV.fn 109) (xH ([104,101,97,100]:SS) (PV.fn 107) (xH ([116,121,112,101]:SS) (PV.clo 106 [PV.hp [PV.hp [PV.sl (qi a),PV.sl (Val.rows c),PV.sl (Node.rows d),PV.sl (Edge.rows e),PV.int .i64 f,PV.bool g,PV.int .i64 i,PV.str j,PV.sl (Val.rows k),PV.sl (qi b)]]]) (xH ([108,97,98,101,108,115]:SS) (PV.clo 104 [PV.hp [PV.hp [PV.sl (qi a),PV.sl (Val.rows c),PV.sl (Node.rows d),PV.sl (Edge.rows e),PV.int .i64 f,PV.bool g,PV.int .i64 i,PV.str j,PV.sl (Val.rows k),PV.sl (qi b)]]]) (xH ([107,101,121,115]:SS) (PV.bfn 103 [PV.hp [PV.sl (qi a),PV.sl (Val.rows c),PV.sl (Node.rows d),PV.sl (Edge.rows e),PV.int .i64 f,PV.bool g,PV.int .i64 i,PV.str j,PV.sl (Val.rows k),PV.sl (qi b)]]) zq5)))))) ([104,101,97,100]:SS)⟩,?_⟩;conv=>whnf
  refine⟨fun hf=>absurd hf (by first|decide|simp),fun _=>?_⟩;conv=>whnf
  refine⟨fun l=>?_,fun l=>?_⟩
  ·replace h:=mC h l
   obtain rfl:=sj h;conv=>whnf
   try exact fin
  replace h:=gf h l;conv=>whnf
  replace h:=RL h;obtain⟨⟨_,_,_,_,_,_⟩,t,h⟩:=h;refine⟨_,Codec.at_ qS t,?_⟩;conv=>whnf
  replace h:=RL h;obtain⟨⟨⟨_,_,_,_,_,_⟩,_⟩,s,h⟩:=h;refine⟨_,(QU n _ _ s),?_⟩;obtain rfl:=sj h;conv=>whnf
  try exact fin
 replace h:=gf h (by simpa using HK5);by_cases HK6:(m==([108,97,115,116]:SS))=true
 ·replace h:=mC h HK6
  obtain rfl:m=([108,97,115,116]:SS):=by simpa using HK6
  conv=>whnf
  refine⟨PV.fn 109,_,⟨UI fl (fun x=>x) (xH ([116,101,120,116]:SS) (PV.fn 110) (xH ([108,97,115,116]:SS) (PV.fn 109) (xH ([104,101,97,100]:SS) (PV.fn 107) (xH ([116,121,112,101]:SS) (PV.clo 106 [PV.hp [PV.hp [PV.sl (qi a),PV.sl (Val.rows c),PV.sl (Node.rows d),PV.sl (Edge.rows e),PV.int .i64 f,PV.bool g,PV.int .i64 i,PV.str j,PV.sl (Val.rows k),PV.sl (qi b)]]]) (xH ([108,97,98,101,108,115]:SS) (PV.clo 104 [PV.hp [PV.hp [PV.sl (qi a),PV.sl (Val.rows c),PV.sl (Node.rows d),PV.sl (Edge.rows e),PV.int .i64 f,PV.bool g,PV.int .i64 i,PV.str j,PV.sl (Val.rows k),PV.sl (qi b)]]]) (xH ([107,101,121,115]:SS) (PV.bfn 103 [PV.hp [PV.sl (qi a),PV.sl (Val.rows c),PV.sl (Node.rows d),PV.sl (Edge.rows e),PV.int .i64 f,PV.bool g,PV.int .i64 i,PV.str j,PV.sl (Val.rows k),PV.sl (qi b)]]) zq5)))))) ([108,97,115,116]:SS) PV.nilfn,UJ fl (fun x=>x) (xH ([116,101,120,116]:SS) (PV.fn 110) (xH ([108,97,115,116]:SS) (PV.fn 109) (xH ([104,101,97,100]:SS) (PV.fn 107) (xH ([116,121,112,101]:SS) (PV.clo 106 [PV.hp [PV.hp [PV.sl (qi a),PV.sl (Val.rows c),PV.sl (Node.rows d),PV.sl (Edge.rows e),PV.int .i64 f,PV.bool g,PV.int .i64 i,PV.str j,PV.sl (Val.rows k),PV.sl (qi b)]]]) (xH ([108,97,98,101,108,115]:SS) (PV.clo 104 [PV.hp [PV.hp [PV.sl (qi a),PV.sl (Val.rows c),PV.sl (Node.rows d),PV.sl (Edge.rows e),PV.int .i64 f,PV.bool g,PV.int .i64 i,PV.str j,PV.sl (Val.rows k),PV.sl (qi b)]]]) (xH ([107,101,121,115]:SS) (PV.bfn 103 [PV.hp [PV.sl (qi a),PV.sl (Val.rows c),PV.sl (Node.rows d),PV.sl (Edge.rows e),PV.int .i64 f,PV.bool g,PV.int .i64 i,PV.str j,PV.sl (Val.rows k),PV.sl (qi b)]]) zq5)))))) ([108,97,115,116]:SS)⟩,?_⟩;conv=>whnf
  refine⟨fun hf=>absurd hf (by first|decide|simp),fun _=>?_⟩;conv=>whnf
  refine⟨fun l=>?_,fun l=>?_⟩
  ·replace h:=mC h l
   obtain rfl:=sj h;conv=>whnf
   try exact fin
  replace h:=gf h l;conv=>whnf
  replace h:=RL h;obtain⟨⟨_,_,_,_,_,_⟩,N,h⟩:=h;refine⟨_,Codec.at_ qS N,?_⟩;conv=>whnf
  replace h:=RL h;obtain⟨⟨⟨_,_,_,_,_,_⟩,_⟩,M,h⟩:=h;refine⟨_,(QV n _ _ M),?_⟩;obtain rfl:=sj h;conv=>whnf
  try exact fin
 replace h:=gf h (by simpa using HK6);by_cases HK7:(m==([116,101,120,116]:SS))=true
 ·replace h:=mC h HK7
  obtain rfl:m=([116,101,120,116]:SS):=by simpa using HK7
  conv=>whnf
  refine⟨PV.fn 110,_,⟨UI fl (fun x=>x) (xH ([116,101,120,116]:SS) (PV.fn 110) (xH ([108,97,115,116]:SS) (PV.fn 109) (xH ([104,101,97,100]:SS) (PV.fn 107) (xH ([116,121,112,101]:SS) (PV.clo 106 [PV.hp [PV.hp [PV.sl (qi a),PV.sl (Val.rows c),PV.sl (Node.rows d),PV.sl (Edge.rows e),PV.int .i64 f,PV.bool g,PV.int .i64 i,PV.str j,PV.sl (Val.rows k),PV.sl (qi b)]]]) (xH ([108,97,98,101,108,115]:SS) (PV.clo 104 [PV.hp [PV.hp [PV.sl (qi a),PV.sl (Val.rows c),PV.sl (Node.rows d),PV.sl (Edge.rows e),PV.int .i64 f,PV.bool g,PV.int .i64 i,PV.str j,PV.sl (Val.rows k),PV.sl (qi b)]]]) (xH ([107,101,121,115]:SS) (PV.bfn 103 [PV.hp [PV.sl (qi a),PV.sl (Val.rows c),PV.sl (Node.rows d),PV.sl (Edge.rows e),PV.int .i64 f,PV.bool g,PV.int .i64 i,PV.str j,PV.sl (Val.rows k),PV.sl (qi b)]]) zq5)))))) ([116,101,120,116]:SS) PV.nilfn,UJ fl (fun x=>x) (xH ([116,101,120,116]:SS) (PV.fn 110) (xH ([108,97,115,116]:SS) (PV.fn 109) (xH ([104,101,97,100]:SS) (PV.fn 107) (xH ([116,121,112,101]:SS) (PV.clo 106 [PV.hp [PV.hp [PV.sl (qi a),PV.sl (Val.rows c),PV.sl (Node.rows d),PV.sl (Edge.rows e),PV.int .i64 f,PV.bool g,PV.int .i64 i,PV.str j,PV.sl (Val.rows k),PV.sl (qi b)]]]) (xH ([108,97,98,101,108,115]:SS) (PV.clo 104 [PV.hp [PV.hp [PV.sl (qi a),PV.sl (Val.rows c),PV.sl (Node.rows d),PV.sl (Edge.rows e),PV.int .i64 f,PV.bool g,PV.int .i64 i,PV.str j,PV.sl (Val.rows k),PV.sl (qi b)]]]) (xH ([107,101,121,115]:SS) (PV.bfn 103 [PV.hp [PV.sl (qi a),PV.sl (Val.rows c),PV.sl (Node.rows d),PV.sl (Edge.rows e),PV.int .i64 f,PV.bool g,PV.int .i64 i,PV.str j,PV.sl (Val.rows k),PV.sl (qi b)]]) zq5)))))) ([116,101,120,116]:SS)⟩,?_⟩;conv=>whnf
  refine⟨fun hf=>absurd hf (by first|decide|simp),fun _=>?_⟩;conv=>whnf
  refine⟨fun l=>?_,fun l=>?_⟩
  ·replace h:=mC h l
   obtain rfl:=sj h;conv=>whnf
   try exact fin
  replace h:=gf h l;conv=>whnf
  replace h:=RL h;obtain⟨⟨_,_,_,_,_,_⟩,L,h⟩:=h;refine⟨_,Codec.at_ qS L,?_⟩;conv=>whnf
  replace h:=RL h;obtain⟨⟨⟨_,_,_,_,_,_⟩,_⟩,K,h⟩:=h;refine⟨_,(CV n _ _ K),?_⟩;obtain rfl:=sj h;conv=>whnf
  try exact fin
 replace h:=gf h (by simpa using HK7);have hq0:(m==([115,105,122,101]:SS))=false:=Bool.eq_false_iff.2 HK0;have hq1:(m==([97,98,115]:SS))=false:=Bool.eq_false_iff.2 HK1;have hq2:(m==([107,101,121,115]:SS))=false:=Bool.eq_false_iff.2 HK2;have hq3:(m==([108,97,98,101,108,115]:SS))=false:=Bool.eq_false_iff.2 HK3;have hq4:(m==([116,121,112,101]:SS))=false:=Bool.eq_false_iff.2 HK4;have hq5:(m==([104,101,97,100]:SS))=false:=Bool.eq_false_iff.2 HK5;have hq6:(m==([108,97,115,116]:SS))=false:=Bool.eq_false_iff.2 HK6;have hq7:(m==([116,101,120,116]:SS))=false:=Bool.eq_false_iff.2 HK7;have hz:eW (xH ([116,101,120,116]:SS) (PV.fn 110) (xH ([108,97,115,116]:SS) (PV.fn 109) (xH ([104,101,97,100]:SS) (PV.fn 107) (xH ([116,121,112,101]:SS) (PV.clo 106 [PV.hp [PV.hp [PV.sl (qi a),PV.sl (Val.rows c),PV.sl (Node.rows d),PV.sl (Edge.rows e),PV.int .i64 f,PV.bool g,PV.int .i64 i,PV.str j,PV.sl (Val.rows k),PV.sl (qi b)]]]) (xH ([108,97,98,101,108,115]:SS) (PV.clo 104 [PV.hp [PV.hp [PV.sl (qi a),PV.sl (Val.rows c),PV.sl (Node.rows d),PV.sl (Edge.rows e),PV.int .i64 f,PV.bool g,PV.int .i64 i,PV.str j,PV.sl (Val.rows k),PV.sl (qi b)]]]) (xH ([107,101,121,115]:SS) (PV.bfn 103 [PV.hp [PV.sl (qi a),PV.sl (Val.rows c),PV.sl (Node.rows d),PV.sl (Edge.rows e),PV.int .i64 f,PV.bool g,PV.int .i64 i,PV.str j,PV.sl (Val.rows k),PV.sl (qi b)]]) zq5)))))) m PV.nilfn=PV.nilfn:=by rw[show(xH ([116,101,120,116]:SS) (PV.fn 110) (xH ([108,97,115,116]:SS) (PV.fn 109) (xH ([104,101,97,100]:SS) (PV.fn 107) (xH ([116,121,112,101]:SS) (PV.clo 106 [PV.hp [PV.hp [PV.sl (qi a),PV.sl (Val.rows c),PV.sl (Node.rows d),PV.sl (Edge.rows e),PV.int .i64 f,PV.bool g,PV.int .i64 i,PV.str j,PV.sl (Val.rows k),PV.sl (qi b)]]]) (xH ([108,97,98,101,108,115]:SS) (PV.clo 104 [PV.hp [PV.hp [PV.sl (qi a),PV.sl (Val.rows c),PV.sl (Node.rows d),PV.sl (Edge.rows e),PV.int .i64 f,PV.bool g,PV.int .i64 i,PV.str j,PV.sl (Val.rows k),PV.sl (qi b)]]]) (xH ([107,101,121,115]:SS) (PV.bfn 103 [PV.hp [PV.sl (qi a),PV.sl (Val.rows c),PV.sl (Node.rows d),PV.sl (Edge.rows e),PV.int .i64 f,PV.bool g,PV.int .i64 i,PV.str j,PV.sl (Val.rows k),PV.sl (qi b)]]) zq5))))))=[(([115,105,122,101]:SS),PV.fn 100),(([97,98,115]:SS),PV.fn 101),(([107,101,121,115]:SS),PV.bfn 103 [PV.hp [PV.sl (qi a),PV.sl (Val.rows c),PV.sl (Node.rows d),PV.sl (Edge.rows e),PV.int .i64 f,PV.bool g,PV.int .i64 i,PV.str j,PV.sl (Val.rows k),PV.sl (qi b)]]),(([108,97,98,101,108,115]:SS),PV.clo 104 [PV.hp [PV.hp [PV.sl (qi a),PV.sl (Val.rows c),PV.sl (Node.rows d),PV.sl (Edge.rows e),PV.int .i64 f,PV.bool g,PV.int .i64 i,PV.str j,PV.sl (Val.rows k),PV.sl (qi b)]]]),(([116,121,112,101]:SS),PV.clo 106 [PV.hp [PV.hp [PV.sl (qi a),PV.sl (Val.rows c),PV.sl (Node.rows d),PV.sl (Edge.rows e),PV.int .i64 f,PV.bool g,PV.int .i64 i,PV.str j,PV.sl (Val.rows k),PV.sl (qi b)]]]),(([104,101,97,100]:SS),PV.fn 107),(([108,97,115,116]:SS),PV.fn 109),(([116,101,120,116]:SS),PV.fn 110)]from rfl]; simp only[eW,qao,hq0,hq1,hq2,hq3,hq4,hq5,hq6,hq7,kcf,Option.getD_none]
 conv=>whnf
 refine⟨PV.nilfn,_,⟨Eq.trans (UI fl (fun x=>x) (xH ([116,101,120,116]:SS) (PV.fn 110) (xH ([108,97,115,116]:SS) (PV.fn 109) (xH ([104,101,97,100]:SS) (PV.fn 107) (xH ([116,121,112,101]:SS) (PV.clo 106 [PV.hp [PV.hp [PV.sl (qi a),PV.sl (Val.rows c),PV.sl (Node.rows d),PV.sl (Edge.rows e),PV.int .i64 f,PV.bool g,PV.int .i64 i,PV.str j,PV.sl (Val.rows k),PV.sl (qi b)]]]) (xH ([108,97,98,101,108,115]:SS) (PV.clo 104 [PV.hp [PV.hp [PV.sl (qi a),PV.sl (Val.rows c),PV.sl (Node.rows d),PV.sl (Edge.rows e),PV.int .i64 f,PV.bool g,PV.int .i64 i,PV.str j,PV.sl (Val.rows k),PV.sl (qi b)]]]) (xH ([107,101,121,115]:SS) (PV.bfn 103 [PV.hp [PV.sl (qi a),PV.sl (Val.rows c),PV.sl (Node.rows d),PV.sl (Edge.rows e),PV.int .i64 f,PV.bool g,PV.int .i64 i,PV.str j,PV.sl (Val.rows k),PV.sl (qi b)]]) zq5)))))) m PV.nilfn) hz,UJ fl (fun x=>x) (xH ([116,101,120,116]:SS) (PV.fn 110) (xH ([108,97,115,116]:SS) (PV.fn 109) (xH ([104,101,97,100]:SS) (PV.fn 107) (xH ([116,121,112,101]:SS) (PV.clo 106 [PV.hp [PV.hp [PV.sl (qi a),PV.sl (Val.rows c),PV.sl (Node.rows d),PV.sl (Edge.rows e),PV.int .i64 f,PV.bool g,PV.int .i64 i,PV.str j,PV.sl (Val.rows k),PV.sl (qi b)]]]) (xH ([108,97,98,101,108,115]:SS) (PV.clo 104 [PV.hp [PV.hp [PV.sl (qi a),PV.sl (Val.rows c),PV.sl (Node.rows d),PV.sl (Edge.rows e),PV.int .i64 f,PV.bool g,PV.int .i64 i,PV.str j,PV.sl (Val.rows k),PV.sl (qi b)]]]) (xH ([107,101,121,115]:SS) (PV.bfn 103 [PV.hp [PV.sl (qi a),PV.sl (Val.rows c),PV.sl (Node.rows d),PV.sl (Edge.rows e),PV.int .i64 f,PV.bool g,PV.int .i64 i,PV.str j,PV.sl (Val.rows k),PV.sl (qi b)]]) zq5)))))) m⟩,?_⟩;conv=>whnf
 refine⟨fun _=>?_,fun hf=>absurd hf (by first|decide|simp)⟩;obtain rfl:=sj h;conv=>whnf
 try exact fin
end W
end
section
set_option maxRecDepth 100000
set_option maxHeartbeats 4000000
open Go Go.Proofs Ax
namespace W
abbrev uW (r:Val×Int):PV:=PV.tup [PV.agg (qS.cells r.1),PV.int .i64 r.2]
def uy (n:Nat) (a:List Val) (b:Int):Unit->Option (Val×Int):=fun _=>
 bnd (idx a b) fun⟨c,d,e,f,g,i⟩=>
 some (Val.mk c d e f g i,(0:Int))
def uz (n:Nat) (a:Int) (b:Bool) (c:Int) (d:SS) (e:List Val) (f:List SS):Unit->Option (Val×Int):=fun _=>
 some (Val.mk a b c d e f,(0:Int))
def gR (n:Nat) (a:Int) (b:Bool) (c:Int) (d:SS) (e:List Val) (f:List SS):Unit->Option (Val×Int):=fun _=>
 some (Val.mk a b c d e f,(0:Int))
def xQ (n:Nat) (a:List Val) (b:Int) (c:SS) (d:List SS) (R:List Val) (S:List Node) (T:List Edge) (U:Int) (V:Bool) (W:Int) (X:SS) (Y:List Val) (e:List SS):Bool->Option (Val×Int):=fun f=>
 bif f then(
 bnd (idx a (0:Int)) fun⟨g,_,_,_,_,_⟩=>
 bnd (bn n ((g==0)==(b==11))) fun i=>
 bnd (zL n i) fun⟨j,k,l,m,o,p⟩=>
 some (Val.mk j k l m o p,(0:Int)))
 else(
 bif(b==10)then(
 bnd (idx a (0:Int)) fun⟨q,s,t,u,v,w⟩=>
 bnd (idx a (1:Int)) fun⟨x,y,z,A,B,C⟩=>
 bnd (sa n c (Val.mk q s t u v w) (Val.mk x y z A B C)) fun⟨⟨D,E,F,G,H,I⟩,J⟩=>
 some (Val.mk D E F G H I,J))
 else(
 bnd (xh n (xa.mk (Env.mk d R) (Graph.mk S T) (Val.mk U V W X Y e)) c a) fun⟨⟨K,L,M,N,O,P⟩,Q⟩=>
 some (Val.mk K L M N O P,Q)))
def qY (n:Nat) (a:Int) (b:List Val) (a0 c:List SS) (f:List Val) (g:List Node) (i:List Edge) (j:Int) (k:Bool) (l:Int) (m:SS) (o:List Val) (d:List SS) (e:SS):Unit->Option (Val×Int):=fun _=>
 bif(a==5)then(
 bnd (uU n b) fun⟨a1,a2,a3,a4,a5,a6⟩=>
 bnd (gH n (Val.mk a1 a2 a3 a4 a5 a6)) fun⟨⟨a7,a8,a9,b0,b1,b2⟩,b3⟩=>
 some (Val.mk a7 a8 a9 b0 b1 b2,b3))
 else(
 bif(a==6)then(
 bnd (mM n a0 b) fun⟨⟨b4,b5,b6,b7,b8,b9⟩,c0⟩=>
 bif(c0 != 0)then(
 some (Val.mk (0:Int) false (0:Int) ([]:SS) ([]:List Val) ([]:List SS),(8:Int)))
 else(
 gR n b4 b5 b6 b7 b8 b9 ()))
 else(
 bif(a==4)then(
 bnd (idx b (0:Int)) fun⟨c1,c2,c3,c4,c5,c6⟩=>
 bnd (fa n (xa.mk (Env.mk c f) (Graph.mk g i) (Val.mk j k l m o d)) (Val.mk c1 c2 c3 c4 c5 c6) e) fun⟨⟨c7,c8,c9,d0,d1,d2⟩,d3⟩=>
 some (Val.mk c7 c8 c9 d0 d1 d2,d3))
 else(
 bif(a==15)then(
 bnd (idx b (0:Int)) fun⟨d4,d5,d6,d7,d8,d9⟩=>
 bnd (fy n (xa.mk (Env.mk c f) (Graph.mk g i) (Val.mk j k l m o d)) (Val.mk d4 d5 d6 d7 d8 d9) e) fun⟨⟨e0,e1,e2,e3,e4,e5⟩,e6⟩=>
 some (Val.mk e0 e1 e2 e3 e4 e5,e6))
 else(
 bif(a==7)then(
 bnd (idx b (0:Int)) fun⟨e7,e8,e9,f0,f1,f2⟩=>
 bnd (idx b (1:Int)) fun⟨f3,f4,f5,f6,f7,f8⟩=>
 bnd (mb n (Val.mk e7 e8 e9 f0 f1 f2) (Val.mk f3 f4 f5 f6 f7 f8)) fun⟨⟨f9,g0,g1,g2,g3,p⟩,q⟩=>
 some (Val.mk f9 g0 g1 g2 g3 p,q))
 else(
 bif(a==8)then(
 bnd (zB n (0:Int)) fun⟨s,t,u,v,w,x⟩=>
 bnd (idx b (0:Int)) fun⟨y,z,A,B,C,D⟩=>
 bnd (xK n (Val.mk s t u v w x) (Val.mk y z A B C D)) fun⟨⟨E,F,G,H,I,J⟩,K⟩=>
 some (Val.mk E F G H I J,K))
 else(
 bif(a==9)then(
 bnd (idx b (0:Int)) fun⟨L,M,N,O,P,Q⟩=>
 bnd (ug n (Val.mk L M N O P Q)) fun⟨R,S⟩=>
 bnd (vW n R) fun T=>
 bnd (zL n T) fun⟨U,V,W,X,Y,Z⟩=>
 some (Val.mk U V W X Y Z,S))
 else(
 bif(a==11)then(
 xQ n b a e c f g i j k l m o d (a==11))
 else(
 xQ n b a e c f g i j k l m o d (a==12)))))))))
abbrev qdk:Type:=xa->qa->Option (Val×Int)
abbrev qe5:Type:=xa->(List qa)->Option (List Val×Int)
def zK (n:Nat) (g33:qdk) (g48:qe5) (q:xa) (s:qa):Option (Val×Int):=
 match q,s with
 | ⟨⟨c,b⟩,⟨m,p⟩,⟨g,i,j,k,l,d⟩⟩,⟨a,e,⟨t,u,v,w,x,y⟩,z,A⟩=>
 bif(a==1)then(
 some (Val.mk t u v w x y,(0:Int)))
 else(
 bif(a==2)then(
 bnd (zT n c e) fun f=>
 bif(bif(decide (f<0))then true else(decide (f≥((Val.rows b).length:Int))))then(
 some (Val.mk (0:Int) false (0:Int) ([]:SS) ([]:List Val) ([]:List SS),(2:Int)))
 else(
 uy n b f ()))
 else(
 bif(a==3)then(
 bnd (ur n (Val.mk g i j k l d) e) fun⟨⟨B,C,D,E,F,G⟩,H⟩=>
 bif(!H)then(
 some (Val.mk (0:Int) false (0:Int) ([]:SS) ([]:List Val) ([]:List SS),(2:Int)))
 else(
 uz n B C D E F G ()))
 else(
 bif(a==14)then(
 some (Val.mk (0:Int) false (0:Int) ([]:SS) ([]:List Val) ([]:List SS),(2:Int)))
 else(
 bnd (g48 (xa.mk (Env.mk c b) (Graph.mk m p) (Val.mk g i j k l d)) A) fun⟨I,o⟩=>
 bif(o != 0)then(
 some (Val.mk (0:Int) false (0:Int) ([]:SS) ([]:List Val) ([]:List SS),o))
 else(
 qY n a I z c b m p g i j k l d e ())))))
abbrev cm (r:List Val×Int):PV:=PV.tup [PV.sl (Val.rows r.1),PV.int .i64 r.2]
def xA (n:Nat) (c:List qa) (g33:qdk) (m:List SS) (w:List Val) (B:List Node) (C:List Edge) (D:Int) (E:Bool) (F:Int) (G:SS) (H:List Val) (o:List SS):LK (List Val×Int) (List Val×Int):=fun l (a,b)=>
 bif(decide (b<((qa.rows c).length:Int)))then(
 bnd (idx c b) fun⟨p,q,⟨s,t,u,v,x,y⟩,z,A⟩=>
 bnd (g33 (xa.mk (Env.mk m w) (Graph.mk B C) (Val.mk D E F G H o)) (qa.mk p q (Val.mk s t u v x y) z A)) fun⟨⟨d,e,f,g,i,j⟩,k⟩=>
 bif(k != 0)then(
 some (([]:List Val),k))
 else(
 chk (decide ((Val.rows (a++[Val.mk d e f g i j])).length * 88<=140737488355328)) (
 l ((a++[Val.mk d e f g i j]),(kwr .i64 (b+1))))))
 else(
 some (a,(0:Int)))
def gU (n:Nat) (g33:qdk) (g48:qe5) (a:xa) (d:List qa):Option (List Val×Int):=
 match a with
 | ⟨⟨b,e⟩,⟨f,g⟩,⟨i,j,k,l,m,c⟩⟩=>
 qA (xA n d g33 b e f g i j k l m c) n (([]:List _),(0:Int))
theorem Xa (n:Nat) (g33:qdk) (g48:qe5) (g33_ok:∀ (b:xa) (d:qa) (r:Val×Int),g33 b d=some r->qc TP 33 [(PV.hp (nX.cells b)),PV.agg (zx.cells d)] (uW r)) (g48_ok:∀ (b:xa) (c:List qa) (r:List Val×Int),g48 b c=some r->qc TP 48 [(PV.hp (nX.cells b)),PV.sl (qa.rows c)] (cm r)):∀ (b:xa) (d:qa) (r:Val×Int),zK n g33 g48 b d=some r->qc TP 33 [(PV.hp (nX.cells b)),PV.agg (zx.cells d)] (uW r):=by
 intro b d r h;obtain⟨⟨f,e⟩,⟨i,j⟩,⟨k,l,m,o,p,g⟩⟩:=b;obtain⟨c,q,⟨v,w,x,y,z,A⟩,u,B⟩:=d;unfold zK at h;refine zN Tryz.call33 Tryz.func33 [1000001,40000010,1000000] ?_;conv=>whnf
 apply ifc h<;>intro a h
 ·obtain rfl:=sj h
  conv=>whnf
  try exact fin
 conv=>whnf
 apply ifc h<;>intro a h
 ·conv=>whnf
  refine bq h fun C a1 h=>⟨_,(fc n _ _ _ a1),?_⟩;conv=>whnf
  refine mw.cut (S:=Unit) (fun _=>[(0,.hptr [PV.sl (qi f),PV.sl (Val.rows e),PV.sl (Node.rows i),PV.sl (Edge.rows j),PV.int .i64 k,PV.bool l,PV.int .i64 m,PV.str o,PV.sl (Val.rows p),PV.sl (qi g)]),(4,.ptr 0 0),(6,pI C)]) (fun _=>[zq6]) (uy n e C) (r:=r) ?_ ?_
  ·intro _ h
   unfold uy at h;conv=>whnf
   refine bq h fun⟨_,_,_,_,_,_⟩ P h=>⟨_,Codec.at_ qS P,?_⟩;obtain rfl:=sj h;conv=>whnf
   try exact fin
  conv=>whnf
  refine⟨id,?_⟩;conv=>whnf
  iterate 7 refine⟨id,?_⟩
  conv=>whnf
  apply ifc h<;>intro a h
  ·obtain rfl:=sj h
   conv=>whnf
   try exact fin
  conv=>whnf
  exact⟨(),h,wk [1] []⟩
 conv=>whnf
 apply ifc h<;>intro a h
 ·conv=>whnf
  refine bq h fun⟨⟨D,E,F,G,H,I⟩,_⟩ b1 h=>⟨_,(tG n _ _ _ b1),?_⟩;conv=>whnf
  refine mw.cut (S:=Unit) (fun _=>[(4,.ptr 0 0),(7,.ptr 1 0)]) (fun _=>[zq6,.box 25 [pI D,pB E,pI F,pS G,pV H,pT I]]) (uz n D E F G H I) (r:=r) ?_ ?_
  ·intro _ h
   unfold uz at h;obtain rfl:=sj h;conv=>whnf
   try exact fin
  conv=>whnf
  apply ifc h<;>intro a h
  ·obtain rfl:=sj h
   conv=>whnf
   try exact fin
  conv=>whnf
  exact⟨(),h,wk [1,2] []⟩
 conv=>whnf
 apply ifc h<;>intro a h
 ·obtain rfl:=sj h
  conv=>whnf
  try exact fin
 conv=>whnf
 refine bq h fun⟨s,_⟩ b0 h=>⟨_,(g48_ok _ _ _ b0),?_⟩;conv=>whnf
 refine mw.cut (S:=Unit) (fun _=>[(0,.hptr [PV.sl (qi f),PV.sl (Val.rows e),PV.sl (Node.rows i),PV.sl (Edge.rows j),PV.int .i64 k,PV.bool l,PV.int .i64 m,PV.str o,PV.sl (Val.rows p),PV.sl (qi g)]),(3,.ptr 0 0),(4,.ptr 1 0),(9,pV s)]) (fun _=>[.box 28 [pI c,pS q,pI v,pB w,pI x,pS y,pV z,pT A,pT u,pE B],zq6]) (qY n c s u f e i j k l m o p g q) (r:=r) ?_ ?_
 ·intro _ h
  unfold qY at h;conv=>whnf
  apply ifc h<;>intro a h
  ·conv=>whnf
   refine bq h fun⟨_,_,_,_,_,_⟩ b3 h=>⟨_,(ni n _ _ b3),?_⟩;conv=>whnf
   refine bq h fun⟨⟨_,_,_,_,_,_⟩,_⟩ b2 h=>⟨_,(nj n _ _ b2),?_⟩;obtain rfl:=sj h;conv=>whnf
   try exact fin
  conv=>whnf
  apply ifc h<;>intro a h
  ·conv=>whnf
   refine bq h fun⟨⟨J,K,L,M,N,O⟩,_⟩ b4 h=>⟨_,(DC n _ _ _ b4),?_⟩;conv=>whnf
   refine mw.cut (S:=Unit) (fun _=>[(4,.ptr 0 0),(11,.ptr 1 0)]) (fun _=>[zq6,.box 25 [pI J,pB K,pI L,pS M,pV N,pT O]]) (gR n J K L M N O) (r:=r) ?_ ?_
   ·intro _ h
    unfold gR at h;obtain rfl:=sj h;conv=>whnf
    try exact fin
   conv=>whnf
   apply ifc h<;>intro a h
   ·obtain rfl:=sj h
    conv=>whnf
    try exact fin
   conv=>whnf
   exact⟨(),h,wk [1,2] []⟩
  conv=>whnf
  apply ifc h<;>intro a h
  ·conv=>whnf
   refine bq h fun⟨_,_,_,_,_,_⟩ b6 h=>⟨_,Codec.at_ qS b6,?_⟩;conv=>whnf
   refine bq h fun⟨⟨_,_,_,_,_,_⟩,_⟩ b5 h=>⟨_,(Vm n _ _ _ _ b5),?_⟩;obtain rfl:=sj h;conv=>whnf
   try exact fin
  conv=>whnf
  apply ifc h<;>intro a h
  ·conv=>whnf
   refine bq h fun⟨_,_,_,_,_,_⟩ Q h=>⟨_,Codec.at_ qS Q,?_⟩;conv=>whnf
   refine bq h fun⟨⟨_,_,_,_,_,_⟩,_⟩ b7 h=>⟨_,(VK n _ _ _ _ b7),?_⟩;obtain rfl:=sj h;conv=>whnf
   try exact fin
  conv=>whnf
  apply ifc h<;>intro a h
  ·conv=>whnf
   refine bq h fun⟨_,_,_,_,_,_⟩ U h=>⟨_,Codec.at_ qS U,?_⟩;conv=>whnf
   refine bq h fun⟨_,_,_,_,_,_⟩ T h=>⟨_,Codec.at_ qS T,?_⟩;conv=>whnf
   refine bq h fun⟨⟨_,_,_,_,_,_⟩,_⟩ R h=>⟨_,(Mn n _ _ _ R),?_⟩;obtain rfl:=sj h;conv=>whnf
   try exact fin
  conv=>whnf
  apply ifc h<;>intro a h
  ·conv=>whnf
   refine bq h fun⟨_,_,_,_,_,_⟩ X h=>⟨_,(xT n _ _ X),?_⟩;conv=>whnf
   refine bq h fun⟨_,_,_,_,_,_⟩ W h=>⟨_,Codec.at_ qS W,?_⟩;conv=>whnf
   refine bq h fun⟨⟨_,_,_,_,_,_⟩,_⟩ V h=>⟨_,(dg n _ _ _ V),?_⟩;obtain rfl:=sj h;conv=>whnf
   try exact fin
  conv=>whnf
  apply ifc h<;>intro a h
  ·conv=>whnf
   refine bq h fun⟨_,_,_,_,_,_⟩ a2 h=>⟨_,Codec.at_ qS a2,?_⟩;conv=>whnf
   refine bq h fun⟨_,_⟩ a0 h=>⟨_,(uT n _ _ a0),?_⟩;conv=>whnf
   refine bq h fun _ Z h=>⟨_,(ub n _ _ Z),?_⟩;conv=>whnf
   refine bq h fun⟨_,_,_,_,_,_⟩ Y h=>⟨_,(zX n _ _ Y),?_⟩;obtain rfl:=sj h;conv=>whnf
   try exact fin
  conv=>whnf
  refine mw.cut (S:=Bool) (fun t=>[(0,.hptr [PV.sl (qi f),PV.sl (Val.rows e),PV.sl (Node.rows i),PV.sl (Edge.rows j),PV.int .i64 k,PV.bool l,PV.int .i64 m,PV.str o,PV.sl (Val.rows p),PV.sl (qi g)]),(3,.ptr 0 0),(4,.ptr 1 0),(9,pV s),(83,pI c),(159,pB t)]) (fun t=>[.box 28 [pI c,pS q,pI v,pB w,pI x,pS y,pV z,pT A,pT u,pE B],zq6]) (xQ n s c q f e i j k l m o p g) (r:=r) ?_ ?_
  ·intro t h
   unfold xQ at h;conv=>whnf
   apply ifc h<;>intro a h
   ·conv=>whnf
    refine bq h fun⟨_,_,_,_,_,_⟩ a5 h=>⟨_,Codec.at_ qS a5,?_⟩;(conv=>whnf);refine bq h fun _ a4 h=>⟨_,(mg n _ _ a4),?_⟩;(conv=>whnf);refine bq h fun⟨_,_,_,_,_,_⟩ a3 h=>⟨_,(zX n _ _ a3),?_⟩;obtain rfl:=sj h;conv=>whnf
    try exact fin
   conv=>whnf
   apply ifc h<;>intro a h
   ·conv=>whnf
    refine bq h fun⟨_,_,_,_,_,_⟩ a8 h=>⟨_,Codec.at_ qS a8,?_⟩;(conv=>whnf);refine bq h fun⟨_,_,_,_,_,_⟩ a7 h=>⟨_,Codec.at_ qS a7,?_⟩;(conv=>whnf);refine bq h fun⟨⟨_,_,_,_,_,_⟩,_⟩ a6 h=>⟨_,(Dt n _ _ _ _ a6),?_⟩;obtain rfl:=sj h;conv=>whnf
    try exact fin
   conv=>whnf
   refine bq h fun⟨⟨_,_,_,_,_,_⟩,_⟩ a9 h=>⟨_,(Vj n _ _ _ _ a9),?_⟩;obtain rfl:=sj h;conv=>whnf
   try exact fin
  conv=>whnf
  apply ifc h<;>intro a h
  ·conv=>whnf
   exact⟨(c==11),h,wk [0,1] []⟩
  conv=>whnf
  exact⟨(c==12),h,wk [0,1] []⟩
 conv=>whnf
 apply ifc h<;>intro a h
 ·obtain rfl:=sj h
  conv=>whnf
  try exact fin
 conv=>whnf
 exact⟨(),h,wk [0,1] []⟩
theorem Vh (n:Nat) (g33:qdk) (g48:qe5) (g33_ok:∀ (a:xa) (l:qa) (r:Val×Int),g33 a l=some r->qc TP 33 [(PV.hp (nX.cells a)),PV.agg (zx.cells l)] (uW r)) (g48_ok:∀ (a:xa) (b:List qa) (r:List Val×Int),g48 a b=some r->qc TP 48 [(PV.hp (nX.cells a)),PV.sl (qa.rows b)] (cm r)):∀ (a:xa) (b:List qa) (r:List Val×Int),gU n g33 g48 a b=some r->qc TP 48 [(PV.hp (nX.cells a)),PV.sl (qa.rows b)] (cm r):=by
 intro a b r h;obtain⟨⟨o,s⟩,⟨t,u⟩,⟨v,w,x,y,z,q⟩⟩:=a;unfold gU at h;refine zN Tryz.call48 Tryz.func48 [1000000] ?_;conv=>whnf
 refine zj.fn [1000000] (S:=List Val×Int) (fun(c,k)=>[(0,.hptr [PV.sl (qi o),PV.sl (Val.rows s),PV.sl (Node.rows t),PV.sl (Edge.rows u),PV.int .i64 v,PV.bool w,PV.int .i64 x,PV.str y,PV.sl (Val.rows z),PV.sl (qi q)]),(6,.tsl 0 (Val.rows c)),(11,pE b),(12,.p (.int .i64 ((qa.rows b).length:Int))),(13,pI k)]) (fun(c,k)=>[.tail 25 6 (Val.rows c).length]) (B:=xA n b g33 o s t u v w x y z q) h (wk [0] [0]) ?_;intro _ st h;obtain⟨c,k⟩:=st;unfold xA at h;conv=>whnf
 apply ifc h<;>intro D h
 ·conv=>whnf
  refine bq h fun⟨_,_,⟨_,_,_,_,_,_⟩,_,_⟩ C h=>⟨_,Codec.at_ zx C,?_⟩;conv=>whnf
  refine bq h fun⟨⟨d,e,f,g,i,j⟩,_⟩ A h=>⟨_,(g33_ok _ _ _ A),?_⟩;conv=>whnf
  apply ifc h<;>intro D h
  ·obtain rfl:=sj h
   conv=>whnf
   try exact fin
  conv=>whnf
  refine⟨Codec.one qS [Val.mk d e f g i j],Val.rows [Val.mk d e f g i j],.inl rfl,?_⟩;conv=>whnf
  rw[show Val.rows c++Val.rows [Val.mk d e f g i j]=Val.rows (c++[Val.mk d e f g i j])from Codec.append qS c [Val.mk d e f g i j]];conv=>whnf
  obtain⟨m,h⟩:=qg h;refine⟨⟨Codec.wide qS (c++[Val.mk d e f g i j]),kod m,zy m (by decide)⟩,?_⟩;conv=>whnf
  refine⟨⟨rfl,rfl,rfl⟩,?_⟩;conv=>whnf
  exact⟨((c++[Val.mk d e f g i j]),(kwr .i64 (k+1))),h,wk [3] []⟩
 obtain rfl:=sj h;conv=>whnf
 try exact fin
mutual
def qu:Nat->xa->qa->Option (Val×Int)
 | 0=>fun _ _=>none
 | n+1=>zK n (qu n) (qW n)
def qW:Nat->xa->(List qa)->Option (List Val×Int)
 | 0=>fun _ _=>none
 | n+1=>gU n (qu n) (qW n)
end
theorem Xp (n:Nat):(∀ (a:xa) (b:qa) (r:Val×Int),qu n a b=some r->qc TP 33 [(PV.hp (nX.cells a)),PV.agg (zx.cells b)] (uW r))/\(∀ (a:xa) (c:List qa) (r:List Val×Int),qW n a c=some r->qc TP 48 [(PV.hp (nX.cells a)),PV.sl (qa.rows c)] (cm r)):=by
 induction n with
 | zero=>exact⟨(by intros; rename_i h; cases h),(by intros; rename_i h; cases h)⟩
 | succ n ih=>
  obtain⟨hg33,hg48⟩:=ih;exact⟨Xa n (qu n) (qW n) hg33 hg48,Vh n (qu n) (qW n) hg33 hg48⟩
theorem Vk (n:Nat):∀ (a:xa) (b:qa) (r:Val×Int),qu n a b=some r->qc TP 33 [(PV.hp (nX.cells a)),PV.agg (zx.cells b)] (uW r):=(Xp n).1
abbrev HU (r:Val×Int):PV:=PV.tup [PV.agg (qS.cells r.1),PV.int .i64 r.2]
def cE (n:Nat) (b:qa) (c:Env) (d:Graph) (e:Val):Option (Val×Int):=
 match b,c,d,e with
 | ⟨f,t,⟨D,I,J,K,L,M⟩,N,g⟩,⟨i,j⟩,⟨k,l⟩,⟨m,o,p,q,s,u⟩=>
 bnd (qu n (xa.mk (Env.mk i j) (Graph.mk k l) (Val.mk m o p q s u)) (qa.mk f t (Val.mk D I J K L M) N g)) fun⟨⟨v,w,x,y,z,A⟩,a⟩=>
 bif(a != 0)then(
 some (Val.mk (0:Int) false (0:Int) ([]:SS) ([]:List Val) ([]:List SS),a))
 else(
 bnd (vf n (Val.mk v w x y z A)) fun⟨B,C,E,F,G,H⟩=>
 some (Val.mk B C E F G H,(0:Int)))
theorem Vx (n:Nat):∀ (a:qa) (b:Env) (c:Graph) (d:Val) (r:Val×Int),cE n a b c d=some r->qc TP 20 [PV.agg (zx.cells a),PV.agg (qgb.cells b),PV.agg (EK.cells c),PV.agg (qS.cells d)] (HU r):=by
 intro a b c d r h;obtain⟨_,_,⟨_,_,_,_,_,_⟩,_,_⟩:=a;obtain⟨e,g⟩:=b;obtain⟨i,j⟩:=c;obtain⟨k,l,m,o,q,s⟩:=d;unfold cE at h;refine zN Tryz.call20 Tryz.func20 [33,1000000] ?_;conv=>whnf
 refine vO.pubBox (P:=Tryz.prog) (f:=33) 5 (t:=75) (cells:=[pT e,pV g,.p (.sl (Node.rows i)),.p (.sl (Edge.rows j)),pI k,pB l,pI m,pS o,pV q,pT s]) (row:=[PV.sl (qi e),PV.sl (Val.rows g),PV.sl (Node.rows i),PV.sl (Edge.rows j),PV.int .i64 k,PV.bool l,PV.int .i64 m,PV.str o,PV.sl (Val.rows q),PV.sl (qi s)]) ?_ ?_ ?_ ?_;rfl;rfl;rfl;refine vO.ofF ?_;conv=>whnf
 refine bq h fun⟨⟨_,_,_,_,_,_⟩,_⟩ v h=>⟨_,(Vk n _ _ _ v),?_⟩;conv=>whnf
 apply ifc h<;>intro _ h
 ·obtain rfl:=sj h
  conv=>whnf
  try exact fin
 conv=>whnf
 refine bq h fun⟨_,_,_,_,_,_⟩ u h=>⟨_,(ml n _ _ u),?_⟩;obtain rfl:=sj h;conv=>whnf
 try exact fin
abbrev Ph (r:Val×Int):PV:=PV.tup [PV.agg (qS.cells r.1),PV.int .i64 r.2]
def zA (n:Nat) (a:qa) (b:vK):Option (Val×Int):=
 match a,b with
 | ⟨c,p,⟨z,A,B,C,D,E⟩,F,d⟩,⟨⟨e,f⟩,⟨g,i⟩,⟨j,k,l,m,o,q⟩⟩=>
 bnd (cE n (qa.mk c p (Val.mk z A B C D E) F d) (Env.mk e f) (Graph.mk g i) (Val.mk j k l m o q)) fun⟨⟨s,t,u,v,w,x⟩,y⟩=>
 some (Val.mk s t u v w x,y)
theorem xk (n:Nat):∀ (a:qa) (b:vK) (r:Val×Int),zA n a b=some r->qc TP 13 [PV.agg (zx.cells a),PV.agg (Bp.cells b)] (Ph r):=by
 intro a b r h;obtain⟨_,_,⟨_,_,_,_,_,_⟩,_,_⟩:=a;obtain⟨⟨_,_⟩,⟨_,_⟩,⟨_,_,_,_,_,_⟩⟩:=b;unfold zA at h;refine zN Tryz.call13 Tryz.func13 [1000000] ?_;conv=>whnf
 refine bq h fun⟨⟨_,_,_,_,_,_⟩,_⟩ c h=>⟨_,(Vx n _ _ _ _ _ c),?_⟩;obtain rfl:=sj h;conv=>whnf
 try exact fin
abbrev HD (r:Bool):PV:=PV.bool r
def xY (n:Nat):Option (Bool):=
 bnd (XS n ([115,105,122,101,40,39,97,39,41,32,43,32,50,32,42,32,51]:SS)) fun⟨a,g,⟨t,A,G,Q,U,V⟩,W,b⟩=>
 bnd (zA n (qa.mk a g (Val.mk t A G Q U V) W b) (vK.mk (Env.mk ([]:List SS) ([]:List Val)) (Graph.mk ([]:List Node) ([]:List Edge)) (Val.mk (5:Int) false (0:Int) ([]:SS) ([]:List Val) ([]:List SS)))) fun⟨⟨_,_,c,_,_,_⟩,d⟩=>
 bnd (XS n ([110,117,108,108,32,79,82,32,116,114,117,101]:SS)) fun⟨e,f,⟨i,j,k,l,m,o⟩,p,q⟩=>
 bnd (zA n (qa.mk e f (Val.mk i j k l m o) p q) (vK.mk (Env.mk ([]:List SS) ([]:List Val)) (Graph.mk ([]:List Node) ([]:List Edge)) (Val.mk (5:Int) false (0:Int) ([]:SS) ([]:List Val) ([]:List SS)))) fun⟨⟨_,s,_,_,_,_⟩,u⟩=>
 bnd (XS n ([49,32,43,32,39,97,39]:SS)) fun⟨v,w,⟨x,y,z,B,C,D⟩,E,F⟩=>
 bnd (zA n (qa.mk v w (Val.mk x y z B C D) E F) (vK.mk (Env.mk ([]:List SS) ([]:List Val)) (Graph.mk ([]:List Node) ([]:List Edge)) (Val.mk (5:Int) false (0:Int) ([]:SS) ([]:List Val) ([]:List SS)))) fun⟨⟨_,_,_,_,_,_⟩,H⟩=>
 bnd (XS n ([49,32,47,32,48]:SS)) fun⟨I,J,⟨K,L,M,N,O,P⟩,R,S⟩=>
 bnd (zA n (qa.mk I J (Val.mk K L M N O P) R S) (vK.mk (Env.mk ([]:List SS) ([]:List Val)) (Graph.mk ([]:List Node) ([]:List Edge)) (Val.mk (5:Int) false (0:Int) ([]:SS) ([]:List Val) ([]:List SS)))) fun⟨⟨_,_,_,_,_,_⟩,T⟩=>
 some (bif(bif(bif(bif(bif(c==7)then(d==0)else false)then s else false)then(u==0)else false)then(H==3)else false)then(T==4)else false)
theorem vn (n:Nat):∀ (r:Bool),xY n=some r->qc TP 10 [] (HD r):=by
 intro r h;unfold xY at h;refine zN Tryz.call10 Tryz.func10 [40000002,40000003,40000004,40000005,1000000] ?_;conv=>whnf
 refine bq h fun⟨_,_,⟨_,_,_,_,_,_⟩,_,_⟩ i h=>⟨_,(QF n _ _ i),?_⟩;conv=>whnf
 refine bq h fun⟨⟨_,_,_,_,_,_⟩,_⟩ g h=>⟨_,(qc.leArgs (xk n _ _ _ g) (by try exact fin)),?_⟩;conv=>whnf
 refine bq h fun⟨_,_,⟨_,_,_,_,_,_⟩,_,_⟩ f h=>⟨_,(QF n _ _ f),?_⟩;conv=>whnf
 refine bq h fun⟨⟨_,_,_,_,_,_⟩,_⟩ e h=>⟨_,(qc.leArgs (xk n _ _ _ e) (by try exact fin)),?_⟩;conv=>whnf
 refine bq h fun⟨_,_,⟨_,_,_,_,_,_⟩,_,_⟩ d h=>⟨_,(QF n _ _ d),?_⟩;conv=>whnf
 refine bq h fun⟨⟨_,_,_,_,_,_⟩,_⟩ c h=>⟨_,(qc.leArgs (xk n _ _ _ c) (by try exact fin)),?_⟩;conv=>whnf
 refine bq h fun⟨_,_,⟨_,_,_,_,_,_⟩,_,_⟩ b h=>⟨_,(QF n _ _ b),?_⟩;conv=>whnf
 refine bq h fun⟨⟨_,_,_,_,_,_⟩,_⟩ a h=>⟨_,(qc.leArgs (xk n _ _ _ a) (by try exact fin)),?_⟩;conv=>whnf
 iterate 10 refine⟨id,?_⟩
 obtain rfl:=sj h;conv=>whnf
 try exact fin
abbrev Pk (r:qa):PV:=PV.agg (zx.cells r)
def nG (n:Nat) (b:Int) (a:qa):Option (qa):=
 match a with
 | ⟨e,f,⟨g,i,j,k,l,m⟩,c,d⟩=>
 some (qa.mk b ([]:SS) (Val.mk (0:Int) false (0:Int) ([]:SS) ([]:List Val) ([]:List SS)) ([]:List SS) [qa.mk e f (Val.mk g i j k l m) c d])
theorem nH (n:Nat):∀ (b:Int) (a r:qa),nG n b a=some r->qc TP 12 [PV.int .i64 b,PV.agg (zx.cells a)] (Pk r):=by
 intro b a r h;obtain⟨e,f,⟨g,i,j,k,l,m⟩,c,d⟩:=a;unfold nG at h;refine zN Tryz.call12 Tryz.func12 [1000000] ?_;conv=>whnf
 refine⟨Codec.one zx [qa.mk e f (Val.mk g i j k l m) c d],qa.rows [qa.mk e f (Val.mk g i j k l m) c d],.inl rfl,?_⟩;obtain rfl:=sj h;conv=>whnf
 try exact fin
end W
end
section
set_option maxRecDepth 100000
set_option maxHeartbeats 4000000
open Go Go.Proofs Ax
namespace W
abbrev Pj (r:qa):PV:=PV.agg (zx.cells r)
def Xb (n:Nat) (a:Int):Option (qa):=
 some (qa.mk (1:Int) ([]:SS) (Val.mk (2:Int) false a ([]:SS) ([]:List Val) ([]:List SS)) ([]:List SS) ([]:List qa))
theorem GU (n:Nat):∀ (a:Int) (r:qa),Xb n a=some r->qc TP 15 [PV.int .i64 a] (Pj r):=by
 intro a r h;unfold Xb at h;refine zN Tryz.call15 Tryz.func15 [1000000] ?_;obtain rfl:=sj h;conv=>whnf
 try exact fin
abbrev Gs (r:Bool):PV:=PV.bool r
def cc (n:Nat) (a:Int) (m:SS) (p:Int) (q:Bool) (s:Int) (t:SS) (u:List Val) (v w:List SS) (b:List qa) (c:Int) (d:SS) (e:Int) (f:Bool) (g:Int) (i:SS) (j:List Val) (k l:List SS) (o:List qa) (V:Int) (W:SS) (X:Int) (Y:Bool) (Z:Int) (a0:SS) (a1:List Val) (a2 a3:List SS) (a4:List qa) (a5:Int) (a6:SS) (a7:Int) (a8:Bool) (a9:Int) (b0:SS) (b1:List Val) (b2 b3:List SS) (b4:List qa) (y:List SS) (z:List Val) (A:List Node) (B:List Edge) (C:Int) (D:Bool) (E:Int) (F:SS) (G:List Val) (H:List SS) (d5:Int) (d6:Bool) (d7:Int) (d8:SS) (d9:List Val) (e0:List SS) (P:Int) (Q:Bool) (R:Int) (S:SS) (T:List Val) (U:List SS):LK (Int) (Bool):=fun b5 M=>
 bif(decide (M<(((qa.rows [qa.mk (7:Int) ([]:SS) (Val.mk (0:Int) false (0:Int) ([]:SS) ([]:List Val) ([]:List SS)) ([]:List SS) [qa.mk (5:Int) ([]:SS) (Val.mk (0:Int) false (0:Int) ([]:SS) ([]:List Val) ([]:List SS)) ([]:List SS) [qa.mk a m (Val.mk p q s t u v) w b,qa.mk c d (Val.mk e f g i j k) l o],qa.mk V W (Val.mk X Y Z a0 a1 a2) a3 a4],qa.mk (13:Int) ([104,101,97,100]:SS) (Val.mk (0:Int) false (0:Int) ([]:SS) ([]:List Val) ([]:List SS)) ([]:List SS) [qa.mk (5:Int) ([]:SS) (Val.mk (0:Int) false (0:Int) ([]:SS) ([]:List Val) ([]:List SS)) ([]:List SS) [qa.mk a m (Val.mk p q s t u v) w b,qa.mk c d (Val.mk e f g i j k) l o]],qa.mk (7:Int) ([]:SS) (Val.mk (0:Int) false (0:Int) ([]:SS) ([]:List Val) ([]:List SS)) ([]:List SS) [qa.mk (5:Int) ([]:SS) (Val.mk (0:Int) false (0:Int) ([]:SS) ([]:List Val) ([]:List SS)) ([]:List SS) [qa.mk a m (Val.mk p q s t u v) w b,qa.mk c d (Val.mk e f g i j k) l o],qa.mk a5 a6 (Val.mk a7 a8 a9 b0 b1 b2) b3 b4],qa.mk (4:Int) ([107]:SS) (Val.mk (0:Int) false (0:Int) ([]:SS) ([]:List Val) ([]:List SS)) ([]:List SS) [qa.mk (6:Int) ([]:SS) (Val.mk (0:Int) false (0:Int) ([]:SS) ([]:List Val) ([]:List SS)) [([107]:SS),([97,32,98]:SS)] [qa.mk a m (Val.mk p q s t u v) w b,qa.mk c d (Val.mk e f g i j k) l o]]]).length:Nat):Int)))then(
 bnd (idx [qa.mk (7:Int) ([]:SS) (Val.mk (0:Int) false (0:Int) ([]:SS) ([]:List Val) ([]:List SS)) ([]:List SS) [qa.mk (5:Int) ([]:SS) (Val.mk (0:Int) false (0:Int) ([]:SS) ([]:List Val) ([]:List SS)) ([]:List SS) [qa.mk a m (Val.mk p q s t u v) w b,qa.mk c d (Val.mk e f g i j k) l o],qa.mk V W (Val.mk X Y Z a0 a1 a2) a3 a4],qa.mk (13:Int) ([104,101,97,100]:SS) (Val.mk (0:Int) false (0:Int) ([]:SS) ([]:List Val) ([]:List SS)) ([]:List SS) [qa.mk (5:Int) ([]:SS) (Val.mk (0:Int) false (0:Int) ([]:SS) ([]:List Val) ([]:List SS)) ([]:List SS) [qa.mk a m (Val.mk p q s t u v) w b,qa.mk c d (Val.mk e f g i j k) l o]],qa.mk (7:Int) ([]:SS) (Val.mk (0:Int) false (0:Int) ([]:SS) ([]:List Val) ([]:List SS)) ([]:List SS) [qa.mk (5:Int) ([]:SS) (Val.mk (0:Int) false (0:Int) ([]:SS) ([]:List Val) ([]:List SS)) ([]:List SS) [qa.mk a m (Val.mk p q s t u v) w b,qa.mk c d (Val.mk e f g i j k) l o],qa.mk a5 a6 (Val.mk a7 a8 a9 b0 b1 b2) b3 b4],qa.mk (4:Int) ([107]:SS) (Val.mk (0:Int) false (0:Int) ([]:SS) ([]:List Val) ([]:List SS)) ([]:List SS) [qa.mk (6:Int) ([]:SS) (Val.mk (0:Int) false (0:Int) ([]:SS) ([]:List Val) ([]:List SS)) [([107]:SS),([97,32,98]:SS)] [qa.mk a m (Val.mk p q s t u v) w b,qa.mk c d (Val.mk e f g i j k) l o]]] M) fun⟨e1,e2,⟨e3,e4,e5,e6,e7,e8⟩,e9,f0⟩=>
 bnd (zA n (qa.mk e1 e2 (Val.mk e3 e4 e5 e6 e7 e8) e9 f0) (vK.mk (Env.mk y z) (Graph.mk A B) (Val.mk C D E F G H))) fun⟨⟨f1,b6,b7,b8,b9,c0⟩,N⟩=>
 bnd (qE (!(N != 0)) (xp n (Val.mk f1 b6 b7 b8 b9 c0) (Val.mk d5 d6 d7 d8 d9 e0))) fun c1=>
 bif(bif(N != 0)then true else(!c1))then(
 some false)
 else(
 b5 (kwr .i64 (M+1))))
 else(
 bnd (zA n (qa.mk (13:Int) ([108,97,115,116]:SS) (Val.mk (0:Int) false (0:Int) ([]:SS) ([]:List Val) ([]:List SS)) ([]:List SS) [qa.mk (5:Int) ([]:SS) (Val.mk (0:Int) false (0:Int) ([]:SS) ([]:List Val) ([]:List SS)) ([]:List SS) [qa.mk a m (Val.mk p q s t u v) w b,qa.mk c d (Val.mk e f g i j k) l o]]) (vK.mk (Env.mk y z) (Graph.mk A B) (Val.mk C D E F G H))) fun⟨⟨c2,c3,c4,c5,c6,c7⟩,x⟩=>
 bnd (zA n (qa.mk (13:Int) ([115,105,122,101]:SS) (Val.mk (0:Int) false (0:Int) ([]:SS) ([]:List Val) ([]:List SS)) ([]:List SS) [qa.mk (6:Int) ([]:SS) (Val.mk (0:Int) false (0:Int) ([]:SS) ([]:List Val) ([]:List SS)) [([107]:SS),([97,32,98]:SS)] [qa.mk a m (Val.mk p q s t u v) w b,qa.mk c d (Val.mk e f g i j k) l o]]) (vK.mk (Env.mk y z) (Graph.mk A B) (Val.mk C D E F G H))) fun⟨⟨_,_,I,_,_,_⟩,J⟩=>
 bnd (zA n (qa.mk (7:Int) ([]:SS) (Val.mk (0:Int) false (0:Int) ([]:SS) ([]:List Val) ([]:List SS)) ([]:List SS) [qa.mk (6:Int) ([]:SS) (Val.mk (0:Int) false (0:Int) ([]:SS) ([]:List Val) ([]:List SS)) [([107]:SS),([97,32,98]:SS)] [qa.mk a m (Val.mk p q s t u v) w b,qa.mk c d (Val.mk e f g i j k) l o],qa.mk (1:Int) ([]:SS) (Val.mk (3:Int) false (0:Int) ([97,32,98]:SS) ([]:List Val) ([]:List SS)) ([]:List SS) ([]:List qa)]) (vK.mk (Env.mk y z) (Graph.mk A B) (Val.mk C D E F G H))) fun⟨⟨c8,c9,d0,d1,d2,d3⟩,K⟩=>
 bnd (qE (x==0) (xp n (Val.mk c2 c3 c4 c5 c6 c7) (Val.mk P Q R S T U))) fun L=>
 bnd (qE (bif(bif(bif(bif(x==0)then L else false)then(J==0)else false)then(I==2)else false)then(K==0)else false) (xp n (Val.mk c8 c9 d0 d1 d2 d3) (Val.mk P Q R S T U))) fun O=>
 bnd (qE (bif(bif(bif(bif(bif(x==0)then L else false)then(J==0)else false)then(I==2)else false)then(K==0)else false)then O else false) (xY n)) fun d4=>
 some (bif(bif(bif(bif(bif(bif(x==0)then L else false)then(J==0)else false)then(I==2)else false)then(K==0)else false)then O else false)then d4 else false))
def bF (n:Nat) (L M:qa) (N:vK):Option (Bool):=
 match L,M,N with
 | ⟨a,m,⟨z,B,C,D,E,F⟩,G,b⟩,⟨c,d,⟨e,f,g,i,j,k⟩,l,o⟩,⟨⟨p,q⟩,⟨s,t⟩,⟨u,v,w,x,y,A⟩⟩=>
 bnd (ct n [qa.mk a m (Val.mk z B C D E F) G b,qa.mk c d (Val.mk e f g i j k) l o]) fun H=>
 bnd (qE (!H) (gk n (qa.mk a m (Val.mk z B C D E F) G b) (29:Int))) fun I=>
 bnd (qE (!(bif H then true else(!I))) (gk n (qa.mk c d (Val.mk e f g i j k) l o) (29:Int))) fun K=>
 bnd (qE (!(bif(bif H then true else(!I))then true else(!K))) (ud n (vK.mk (Env.mk p q) (Graph.mk s t) (Val.mk u v w x y A)))) fun O=>
 bif(bif(bif(bif H then true else(!I))then true else(!K))then true else(!O))then(
 bnd (xY n) fun P=>
 some P)
 else(
 bnd (zA n (qa.mk a m (Val.mk z B C D E F) G b) (vK.mk (Env.mk p q) (Graph.mk s t) (Val.mk u v w x y A))) fun⟨⟨Q,R,S,T,U,V⟩,W⟩=>
 bnd (zA n (qa.mk c d (Val.mk e f g i j k) l o) (vK.mk (Env.mk p q) (Graph.mk s t) (Val.mk u v w x y A))) fun⟨⟨X,Y,Z,a0,a1,a2⟩,a3⟩=>
 bnd (zA n (qa.mk (5:Int) ([]:SS) (Val.mk (0:Int) false (0:Int) ([]:SS) ([]:List Val) ([]:List SS)) ([]:List SS) [qa.mk a m (Val.mk z B C D E F) G b,qa.mk c d (Val.mk e f g i j k) l o]) (vK.mk (Env.mk p q) (Graph.mk s t) (Val.mk u v w x y A))) fun⟨⟨_,_,_,_,_,_⟩,J⟩=>
 bif(bif(bif(W != 0)then true else(a3 != 0))then true else(J != 0))then(
 bnd (qE (J != 0) (xY n)) fun a4=>
 some (bif(J != 0)then a4 else false))
 else(
 bnd (Xb n (0:Int)) fun⟨a5,a6,⟨a7,a8,a9,b0,b1,b2⟩,b3,b4⟩=>
 bnd (Xb n (2:Int)) fun⟨b5,b6,⟨b7,b8,b9,c0,c1,c2⟩,c3,c4⟩=>
 bnd (nG n (8:Int) (qa.mk b5 b6 (Val.mk b7 b8 b9 c0 c1 c2) c3 c4)) fun⟨c5,c6,⟨c7,c8,c9,d0,d1,d2⟩,d3,d4⟩=>
 qA (cc n a m z B C D E F G b c d e f g i j k l o a5 a6 a7 a8 a9 b0 b1 b2 b3 b4 c5 c6 c7 c8 c9 d0 d1 d2 d3 d4 p q s t u v w x y A Q R S T U V X Y Z a0 a1 a2) n (0:Int)))
theorem Ui (n:Nat):∀ (z A:qa) (C:vK) (r:Bool),bF n z A C=some r->qc TP 4 [PV.agg (zx.cells z),PV.agg (zx.cells A),PV.agg (Bp.cells C)] (Gs r):=by
 intro z A C r h;obtain⟨a,m,⟨q,s,t,u,v,w⟩,x,b⟩:=z;obtain⟨c,d,⟨e,f,g,i,j,k⟩,l,o⟩:=A;obtain⟨⟨a0,a1⟩,⟨a2,a3⟩,⟨a4,a5,a6,a7,a8,a9⟩⟩:=C;unfold bF at h;refine zN Tryz.call4 Tryz.func4 [40000014,1000000] ?_;conv=>whnf
 refine⟨Codec.one zx [qa.mk a m (Val.mk q s t u v w) x b,qa.mk c d (Val.mk e f g i j k) l o],qa.rows [qa.mk a m (Val.mk q s t u v w) x b,qa.mk c d (Val.mk e f g i j k) l o],.inl rfl,?_⟩;conv=>whnf
 refine bq h fun _ d5 h=>⟨_,(mW n _ _ d5),?_⟩;conv=>whnf
 refine⟨id,?_⟩;conv=>whnf
 refine bq h fun _ d4 h=>⟨_,fun y=>(bL n _ _ _ (qb d4 y)),?_⟩;conv=>whnf
 refine⟨id,id,id,?_⟩;conv=>whnf
 refine bq h fun _ d2 h=>⟨_,fun y=>(bL n _ _ _ (qb d2 y)),?_⟩;conv=>whnf
 refine⟨id,id,id,?_⟩;conv=>whnf
 refine bq h fun _ d1 h=>⟨_,fun y=>(cb n _ _ (qb d1 y)),?_⟩;conv=>whnf
 refine⟨id,id,?_⟩;conv=>whnf
 apply ifc h<;>intro Z h
 ·conv=>whnf
  refine bq h fun _ c2 h=>⟨_,(vn n _ c2),?_⟩;obtain rfl:=sj h;conv=>whnf
  try exact fin
 conv=>whnf
 refine⟨Codec.one zx [qa.mk a m (Val.mk q s t u v w) x b,qa.mk c d (Val.mk e f g i j k) l o],qa.rows [qa.mk a m (Val.mk q s t u v w) x b,qa.mk c d (Val.mk e f g i j k) l o],.inl rfl,?_⟩;conv=>whnf
 refine⟨Codec.one ca [([107]:SS),([97,32,98]:SS)],qi [([107]:SS),([97,32,98]:SS)],.inl rfl,?_⟩;conv=>whnf
 refine⟨Codec.one zx [qa.mk a m (Val.mk q s t u v w) x b,qa.mk c d (Val.mk e f g i j k) l o],qa.rows [qa.mk a m (Val.mk q s t u v w) x b,qa.mk c d (Val.mk e f g i j k) l o],.inl rfl,?_⟩;conv=>whnf
 refine bq h fun⟨⟨b0,b1,b2,b3,b4,b5⟩,_⟩ d0 h=>⟨_,(xk n _ _ _ d0),?_⟩;conv=>whnf
 refine bq h fun⟨⟨b6,b7,b8,b9,c0,c1⟩,_⟩ c9 h=>⟨_,(xk n _ _ _ c9),?_⟩;conv=>whnf
 refine bq h fun⟨⟨_,_,_,_,_,_⟩,_⟩ c8 h=>⟨_,(qc.leArgs (xk n _ _ _ c8) (by try exact fin)),?_⟩;conv=>whnf
 refine⟨id,id,id,id,?_⟩;conv=>whnf
 apply ifc h<;>intro Z h
 ·conv=>whnf
  refine bq h fun _ d3 h=>⟨_,fun y=>(vn n _ (qb d3 y)),?_⟩;conv=>whnf
  refine⟨id,?_⟩;obtain rfl:=sj h;conv=>whnf
  try exact fin
 conv=>whnf
 refine bq h fun⟨D,E,⟨F,G,H,I,J,K⟩,L,M⟩ c7 h=>⟨_,(GU n _ _ c7),?_⟩;conv=>whnf
 refine⟨by repeat (first|exact List.forall_mem_nil _|refine List.forall_mem_cons.2 ⟨⟨rfl,rfl⟩,?_⟩),qa.rows [qa.mk (5:Int) ([]:SS) (Val.mk (0:Int) false (0:Int) ([]:SS) ([]:List Val) ([]:List SS)) ([]:List SS) [qa.mk a m (Val.mk q s t u v w) x b,qa.mk c d (Val.mk e f g i j k) l o],qa.mk D E (Val.mk F G H I J K) L M],.inr (by try exact fin),?_⟩;conv=>whnf
 refine⟨by repeat (first|exact List.forall_mem_nil _|refine List.forall_mem_cons.2 ⟨⟨rfl,rfl⟩,?_⟩),qa.rows [qa.mk (5:Int) ([]:SS) (Val.mk (0:Int) false (0:Int) ([]:SS) ([]:List Val) ([]:List SS)) ([]:List SS) [qa.mk a m (Val.mk q s t u v w) x b,qa.mk c d (Val.mk e f g i j k) l o]],.inr (by try exact fin),?_⟩;conv=>whnf
 refine bq h fun⟨_,_,⟨_,_,_,_,_,_⟩,_,_⟩ c6 h=>⟨_,(GU n _ _ c6),?_⟩;conv=>whnf
 refine bq h fun⟨N,O,⟨P,Q,R,T,U,V⟩,W,X⟩ c5 h=>⟨_,(nH n _ _ _ c5),?_⟩;conv=>whnf
 refine⟨by repeat (first|exact List.forall_mem_nil _|refine List.forall_mem_cons.2 ⟨⟨rfl,rfl⟩,?_⟩),qa.rows [qa.mk (5:Int) ([]:SS) (Val.mk (0:Int) false (0:Int) ([]:SS) ([]:List Val) ([]:List SS)) ([]:List SS) [qa.mk a m (Val.mk q s t u v w) x b,qa.mk c d (Val.mk e f g i j k) l o],qa.mk N O (Val.mk P Q R T U V) W X],.inr (by try exact fin),?_⟩;conv=>whnf
 refine⟨by repeat (first|exact List.forall_mem_nil _|refine List.forall_mem_cons.2 ⟨⟨rfl,rfl⟩,?_⟩),qa.rows [qa.mk (6:Int) ([]:SS) (Val.mk (0:Int) false (0:Int) ([]:SS) ([]:List Val) ([]:List SS)) [([107]:SS),([97,32,98]:SS)] [qa.mk a m (Val.mk q s t u v w) x b,qa.mk c d (Val.mk e f g i j k) l o]],.inr (by try exact fin),?_⟩;conv=>whnf
 refine⟨by repeat (first|exact List.forall_mem_nil _|refine List.forall_mem_cons.2 ⟨⟨rfl,rfl⟩,?_⟩),qa.rows [qa.mk (7:Int) ([]:SS) (Val.mk (0:Int) false (0:Int) ([]:SS) ([]:List Val) ([]:List SS)) ([]:List SS) [qa.mk (5:Int) ([]:SS) (Val.mk (0:Int) false (0:Int) ([]:SS) ([]:List Val) ([]:List SS)) ([]:List SS) [qa.mk a m (Val.mk q s t u v w) x b,qa.mk c d (Val.mk e f g i j k) l o],qa.mk D E (Val.mk F G H I J K) L M],qa.mk (13:Int) ([104,101,97,100]:SS) (Val.mk (0:Int) false (0:Int) ([]:SS) ([]:List Val) ([]:List SS)) ([]:List SS) [qa.mk (5:Int) ([]:SS) (Val.mk (0:Int) false (0:Int) ([]:SS) ([]:List Val) ([]:List SS)) ([]:List SS) [qa.mk a m (Val.mk q s t u v w) x b,qa.mk c d (Val.mk e f g i j k) l o]],qa.mk (7:Int) ([]:SS) (Val.mk (0:Int) false (0:Int) ([]:SS) ([]:List Val) ([]:List SS)) ([]:List SS) [qa.mk (5:Int) ([]:SS) (Val.mk (0:Int) false (0:Int) ([]:SS) ([]:List Val) ([]:List SS)) ([]:List SS) [qa.mk a m (Val.mk q s t u v w) x b,qa.mk c d (Val.mk e f g i j k) l o],qa.mk N O (Val.mk P Q R T U V) W X],qa.mk (4:Int) ([107]:SS) (Val.mk (0:Int) false (0:Int) ([]:SS) ([]:List Val) ([]:List SS)) ([]:List SS) [qa.mk (6:Int) ([]:SS) (Val.mk (0:Int) false (0:Int) ([]:SS) ([]:List Val) ([]:List SS)) [([107]:SS),([97,32,98]:SS)] [qa.mk a m (Val.mk q s t u v w) x b,qa.mk c d (Val.mk e f g i j k) l o]]],.inr (by try exact fin),?_⟩;conv=>whnf
 refine zj.fn [40000014,1000000] (S:=Int) (fun Y=>[(5,.ptr 0 0),(7,.ptr 1 0),(8,.ptr 2 0),(9,.ptr 3 0),(11,.ptr 4 0),(15,.p (.sl (qa.rows [qa.mk (7:Int) ([]:SS) (Val.mk (0:Int) false (0:Int) ([]:SS) ([]:List Val) ([]:List SS)) ([]:List SS) [qa.mk (5:Int) ([]:SS) (Val.mk (0:Int) false (0:Int) ([]:SS) ([]:List Val) ([]:List SS)) ([]:List SS) [qa.mk a m (Val.mk q s t u v w) x b,qa.mk c d (Val.mk e f g i j k) l o],qa.mk D E (Val.mk F G H I J K) L M],qa.mk (13:Int) ([104,101,97,100]:SS) (Val.mk (0:Int) false (0:Int) ([]:SS) ([]:List Val) ([]:List SS)) ([]:List SS) [qa.mk (5:Int) ([]:SS) (Val.mk (0:Int) false (0:Int) ([]:SS) ([]:List Val) ([]:List SS)) ([]:List SS) [qa.mk a m (Val.mk q s t u v w) x b,qa.mk c d (Val.mk e f g i j k) l o]],qa.mk (7:Int) ([]:SS) (Val.mk (0:Int) false (0:Int) ([]:SS) ([]:List Val) ([]:List SS)) ([]:List SS) [qa.mk (5:Int) ([]:SS) (Val.mk (0:Int) false (0:Int) ([]:SS) ([]:List Val) ([]:List SS)) ([]:List SS) [qa.mk a m (Val.mk q s t u v w) x b,qa.mk c d (Val.mk e f g i j k) l o],qa.mk N O (Val.mk P Q R T U V) W X],qa.mk (4:Int) ([107]:SS) (Val.mk (0:Int) false (0:Int) ([]:SS) ([]:List Val) ([]:List SS)) ([]:List SS) [qa.mk (6:Int) ([]:SS) (Val.mk (0:Int) false (0:Int) ([]:SS) ([]:List Val) ([]:List SS)) [([107]:SS),([97,32,98]:SS)] [qa.mk a m (Val.mk q s t u v w) x b,qa.mk c d (Val.mk e f g i j k) l o]]]))),(16,pI Y)]) (fun Y=>[.box 36 [pT a0,pV a1,.p (.sl (Node.rows a2)),.p (.sl (Edge.rows a3)),pI a4,pB a5,pI a6,pS a7,pV a8,pT a9],.box 28 [.p (.int .i64 (5:Int)),zq1,zq0,pB false,zq0,zq1,zq2,zq2,zq2,.p (.sl (qa.rows [qa.mk a m (Val.mk q s t u v w) x b,qa.mk c d (Val.mk e f g i j k) l o]))],.box 28 [.p (.int .i64 (6:Int)),zq1,zq0,pB false,zq0,zq1,zq2,zq2,.p (.sl (qi [([107]:SS),([97,32,98]:SS)])),.p (.sl (qa.rows [qa.mk a m (Val.mk q s t u v w) x b,qa.mk c d (Val.mk e f g i j k) l o]))],.box 25 [pI b0,pB b1,pI b2,pS b3,pV b4,pT b5],.box 25 [pI b6,pB b7,pI b8,pS b9,pV c0,pT c1]]) (B:=cc n a m q s t u v w x b c d e f g i j k l o D E F G H I J K L M N O P Q R T U V W X a0 a1 a2 a3 a4 a5 a6 a7 a8 a9 b0 b1 b2 b3 b4 b5 b6 b7 b8 b9 c0 c1) h (wk [2,3,4,5,6] []) ?_;intro _ Y h;unfold cc at h;conv=>whnf
 apply ifc h<;>intro Z h
 ·conv=>whnf
  refine bq h fun⟨_,_,⟨_,_,_,_,_,_⟩,_,_⟩ d8 h=>⟨_,Codec.at_ zx d8,?_⟩;conv=>whnf
  refine bq h fun⟨⟨_,_,_,_,_,_⟩,_⟩ d7 h=>⟨_,(xk n _ _ _ d7),?_⟩;conv=>whnf
  refine⟨id,id,?_⟩;conv=>whnf
  refine bq h fun _ d6 h=>⟨_,fun y=>(uA n _ _ _ (qb d6 y)),?_⟩;conv=>whnf
  refine⟨id,id,?_⟩;conv=>whnf
  apply ifc h<;>intro Z h
  ·obtain rfl:=sj h
   conv=>whnf
   try exact fin
  conv=>whnf
  exact⟨(kwr .i64 (Y+1)),h,wk [0,1,2,3,4] []⟩
 conv=>whnf
 refine⟨by repeat (first|exact List.forall_mem_nil _|refine List.forall_mem_cons.2 ⟨⟨rfl,rfl⟩,?_⟩),qa.rows [qa.mk (5:Int) ([]:SS) (Val.mk (0:Int) false (0:Int) ([]:SS) ([]:List Val) ([]:List SS)) ([]:List SS) [qa.mk a m (Val.mk q s t u v w) x b,qa.mk c d (Val.mk e f g i j k) l o]],.inr (by try exact fin),?_⟩;conv=>whnf
 refine bq h fun⟨⟨_,_,_,_,_,_⟩,_⟩ c4 h=>⟨_,(qc.leArgs (xk n _ _ _ c4) (by try exact fin)),?_⟩;conv=>whnf
 refine⟨by repeat (first|exact List.forall_mem_nil _|refine List.forall_mem_cons.2 ⟨⟨rfl,rfl⟩,?_⟩),qa.rows [qa.mk (6:Int) ([]:SS) (Val.mk (0:Int) false (0:Int) ([]:SS) ([]:List Val) ([]:List SS)) [([107]:SS),([97,32,98]:SS)] [qa.mk a m (Val.mk q s t u v w) x b,qa.mk c d (Val.mk e f g i j k) l o]],.inr (by try exact fin),?_⟩;conv=>whnf
 refine bq h fun⟨⟨_,_,_,_,_,_⟩,_⟩ c3 h=>⟨_,(qc.leArgs (xk n _ _ _ c3) (by try exact fin)),?_⟩;conv=>whnf
 refine⟨by repeat (first|exact List.forall_mem_nil _|refine List.forall_mem_cons.2 ⟨⟨rfl,rfl⟩,?_⟩),qa.rows [qa.mk (6:Int) ([]:SS) (Val.mk (0:Int) false (0:Int) ([]:SS) ([]:List Val) ([]:List SS)) [([107]:SS),([97,32,98]:SS)] [qa.mk a m (Val.mk q s t u v w) x b,qa.mk c d (Val.mk e f g i j k) l o],qa.mk (1:Int) ([]:SS) (Val.mk (3:Int) false (0:Int) ([97,32,98]:SS) ([]:List Val) ([]:List SS)) ([]:List SS) ([]:List qa)],.inr (by try exact fin),?_⟩;conv=>whnf
 refine bq h fun⟨⟨_,_,_,_,_,_⟩,_⟩ e2 h=>⟨_,(qc.leArgs (xk n _ _ _ e2) (by try exact fin)),?_⟩;conv=>whnf
 refine⟨id,id,?_⟩;conv=>whnf
 refine bq h fun _ e1 h=>⟨_,fun y=>(uA n _ _ _ (qb e1 y)),?_⟩;conv=>whnf
 iterate 10 refine⟨id,?_⟩
 conv=>whnf
 refine bq h fun _ e0 h=>⟨_,fun y=>(uA n _ _ _ (qb e0 y)),?_⟩;conv=>whnf
 refine⟨id,?_⟩;conv=>whnf
 refine bq h fun _ d9 h=>⟨_,fun y=>(vn n _ (qb d9 y)),?_⟩;conv=>whnf
 refine⟨id,?_⟩;obtain rfl:=sj h;conv=>whnf
 try exact fin
end W
end
section
set_option maxRecDepth 100000
set_option maxHeartbeats 4000000
open Go Go.Proofs Ax
namespace W
end W
end
