/- A part of the proof: contracts, printed by program. -/
import Derived.Test.YtglihheagfnakaaGreatB
import Derived.Test.YtglihheagfnakaaGreatC
import Derived.Test.YtglihheagfnakaaGreatF
import Derived.Test.YtglihheagfnakaaGreatG
import Derived.Test.YtglihheagfnakaaGreatH
set_option linter.unusedVariables false
set_option linter.unusedSimpArgs false
set_option linter.unnecessarySimpa false
set_option linter.deprecated false
set_option linter.unusedSectionVars false
set_option linter.constructorNameAsVariable false
open Go.IntKind renaming wrap->kwr,bits->kbt
open BitVec renaming ofInt->jr
section
set_option maxRecDepth 100000
set_option maxHeartbeats 20000000
open Go Go.Proofs Ax
attribute [local irreducible] zh rI uh
namespace W
def mI (n:Nat) (b:SS) (a:Nat) (c:SS) (d:SS×Nat->Option SS):Bool->Option SS:=fun m=>bif m then bnd (u8I (kwr .u8 ((jr (kbt .u8) 224 ||| jr (kbt .u8) (kwr .u8 (Int.fdiv (qK b a:Int) (2 ^ (min (Int.toNat 12) (kbt .i32)))))).toNat:Int))) fun k=>bnd (u8I (kwr .u8 ((jr (kbt .u8) 128 ||| jr (kbt .u8) (kwr .u8 ((jr (kbt .u8) (kwr .u8 (Int.fdiv (qK b a:Int) (2 ^ (min (Int.toNat 6) (kbt .i32))))) &&& jr (kbt .u8) 63).toNat:Int))).toNat:Int))) fun l=>bnd (u8I (kwr .u8 ((jr (kbt .u8) 128 ||| jr (kbt .u8) (kwr .u8 ((jr (kbt .u8) (kwr .u8 (qK b a:Int)) &&& jr (kbt .u8) 63).toNat:Int))).toNat:Int))) fun e=>chk ((qo ((c++[92])++[k,l,e])).length * 1<=140737488355328) (d ((c++[92])++[k,l,e],(bif a<b.length then zY b a else a))) else bif bif kwr .u32 (qK b a:Int)>65535 then kwr .u32 (qK b a:Int)<=1114111 else false then bnd (u8I (kwr .u8 ((jr (kbt .u8) 240 ||| jr (kbt .u8) (kwr .u8 (Int.fdiv (qK b a:Int) (2 ^ (min (Int.toNat 18) (kbt .i32)))))).toNat:Int))) fun f=>bnd (u8I (kwr .u8 ((jr (kbt .u8) 128 ||| jr (kbt .u8) (kwr .u8 ((jr (kbt .u8) (kwr .u8 (Int.fdiv (qK b a:Int) (2 ^ (min (Int.toNat 12) (kbt .i32))))) &&& jr (kbt .u8) 63).toNat:Int))).toNat:Int))) fun g=>bnd (u8I (kwr .u8 ((jr (kbt .u8) 128 ||| jr (kbt .u8) (kwr .u8 ((jr (kbt .u8) (kwr .u8 (Int.fdiv (qK b a:Int) (2 ^ (min (Int.toNat 6) (kbt .i32))))) &&& jr (kbt .u8) 63).toNat:Int))).toNat:Int))) fun i=>bnd (u8I (kwr .u8 ((jr (kbt .u8) 128 ||| jr (kbt .u8) (kwr .u8 ((jr (kbt .u8) (kwr .u8 (qK b a:Int)) &&& jr (kbt .u8) 63).toNat:Int))).toNat:Int))) fun j=>chk ((qo ((c++[92])++[f,g,i,j])).length * 1<=140737488355328) (d ((c++[92])++[f,g,i,j],(bif a<b.length then zY b a else a))) else chk ((qo ((c++[92])++[239,191,189])).length * 1<=140737488355328) (d ((c++[92])++[239,191,189],(bif a<b.length then zY b a else a)))
def gm (n:Nat) (b:SS) (a:Nat) (c:SS) (d:SS×Nat->Option SS):Bool->Option SS:=fun m=>bif m then bnd (u8I (kwr .u8 ((jr (kbt .u8) 224 ||| jr (kbt .u8) (kwr .u8 (Int.fdiv (qK b a:Int) (2 ^ (min (Int.toNat 12) (kbt .i32)))))).toNat:Int))) fun e=>bnd (u8I (kwr .u8 ((jr (kbt .u8) 128 ||| jr (kbt .u8) (kwr .u8 ((jr (kbt .u8) (kwr .u8 (Int.fdiv (qK b a:Int) (2 ^ (min (Int.toNat 6) (kbt .i32))))) &&& jr (kbt .u8) 63).toNat:Int))).toNat:Int))) fun f=>bnd (u8I (kwr .u8 ((jr (kbt .u8) 128 ||| jr (kbt .u8) (kwr .u8 ((jr (kbt .u8) (kwr .u8 (qK b a:Int)) &&& jr (kbt .u8) 63).toNat:Int))).toNat:Int))) fun g=>chk ((qo (c++[e,f,g])).length * 1<=140737488355328) (d (c++[e,f,g],(bif a<b.length then zY b a else a))) else bif bif kwr .u32 (qK b a:Int)>65535 then kwr .u32 (qK b a:Int)<=1114111 else false then bnd (u8I (kwr .u8 ((jr (kbt .u8) 240 ||| jr (kbt .u8) (kwr .u8 (Int.fdiv (qK b a:Int) (2 ^ (min (Int.toNat 18) (kbt .i32)))))).toNat:Int))) fun i=>bnd (u8I (kwr .u8 ((jr (kbt .u8) 128 ||| jr (kbt .u8) (kwr .u8 ((jr (kbt .u8) (kwr .u8 (Int.fdiv (qK b a:Int) (2 ^ (min (Int.toNat 12) (kbt .i32))))) &&& jr (kbt .u8) 63).toNat:Int))).toNat:Int))) fun j=>bnd (u8I (kwr .u8 ((jr (kbt .u8) 128 ||| jr (kbt .u8) (kwr .u8 ((jr (kbt .u8) (kwr .u8 (Int.fdiv (qK b a:Int) (2 ^ (min (Int.toNat 6) (kbt .i32))))) &&& jr (kbt .u8) 63).toNat:Int))).toNat:Int))) fun k=>bnd (u8I (kwr .u8 ((jr (kbt .u8) 128 ||| jr (kbt .u8) (kwr .u8 ((jr (kbt .u8) (kwr .u8 (qK b a:Int)) &&& jr (kbt .u8) 63).toNat:Int))).toNat:Int))) fun l=>chk ((qo (c++[i,j,k,l])).length * 1<=140737488355328) (d (c++[i,j,k,l],(bif a<b.length then zY b a else a))) else chk ((qo (c++[239,191,189])).length * 1<=140737488355328) (d (c++[239,191,189],(bif a<b.length then zY b a else a)))
def vA (n:Nat) (b:SS):(SS×Nat->Option SS)->SS×Nat->Option SS:=fun d (c,a)=>bif a<b.length then bif bif (qK b a:Int)==92 then true else (qK b a:Int)==39 then chk ((qo (c++[92])).length * 1<=140737488355328) (bif kwr .u32 (qK b a:Int)<=127 then bnd (u8I (kwr .u8 (qK b a:Int))) fun m=>chk ((qo ((c++[92])++[m])).length * 1<=140737488355328) (d ((c++[92])++[m],(bif a<b.length then zY b a else a))) else bif kwr .u32 (qK b a:Int)<=2047 then bnd (u8I (kwr .u8 ((jr (kbt .u8) 192 ||| jr (kbt .u8) (kwr .u8 (Int.fdiv (qK b a:Int) (2 ^ (min (Int.toNat 6) (kbt .i32)))))).toNat:Int))) fun o=>bnd (u8I (kwr .u8 ((jr (kbt .u8) 128 ||| jr (kbt .u8) (kwr .u8 ((jr (kbt .u8) (kwr .u8 (qK b a:Int)) &&& jr (kbt .u8) 63).toNat:Int))).toNat:Int))) fun p=>chk ((qo ((c++[92])++[o,p])).length * 1<=140737488355328) (d ((c++[92])++[o,p],(bif a<b.length then zY b a else a))) else bif kwr .u32 (qK b a:Int)<55296 then mI n b a c d (kwr .u32 (qK b a:Int)<55296) else mI n b a c d (bif 57343<kwr .u32 (qK b a:Int) then kwr .u32 (qK b a:Int)<=65535 else false)) else bif (qK b a:Int)==10 then chk ((qo (c++([92,110]:SS))).length * 1<=140737488355328) (d (c++([92,110]:SS),(bif a<b.length then zY b a else a))) else bif (qK b a:Int)==9 then chk ((qo (c++([92,116]:SS))).length * 1<=140737488355328) (d (c++([92,116]:SS),(bif a<b.length then zY b a else a))) else bif (qK b a:Int)==13 then chk ((qo (c++([92,114]:SS))).length * 1<=140737488355328) (d (c++([92,114]:SS),(bif a<b.length then zY b a else a))) else bnd (qz ((!(bif (qK b a:Int)<32 then true else (qK b a:Int)==127))&&((qK b a:Int)==65533)) (pY (a:Int))) fun f=>chk (bif (!(bif (qK b a:Int)<32 then true else (qK b a:Int)==127))&&((qK b a:Int)==65533) then decide (f<=b.length)else true) (bnd (qz ((!(bif (qK b a:Int)<32 then true else (qK b a:Int)==127))&&((qK b a:Int)==65533)) (vT n (b.drop f) ([239,191,189]:SS))) fun q=>bif bif bif (qK b a:Int)<32 then true else (qK b a:Int)==127 then true else bif (qK b a:Int)==65533 then !q else false then bnd (idx b (a:Int)) fun g=>chk ((qo (c++([92,120]:SS))).length * 1<=140737488355328) (bnd (idx ([48,49,50,51,52,53,54,55,56,57,97,98,99,100,101,102]:SS) (Int.fdiv (g.toNat:Int) (2 ^ (min (Int.toNat 4) (kbt .u8))))) fun e=>chk ((qo ((c++([92,120]:SS))++[e])).length * 1<=140737488355328) (bnd (idx ([48,49,50,51,52,53,54,55,56,57,97,98,99,100,101,102]:SS) (kwr .u8 ((jr (kbt .u8) (g.toNat:Int) &&& jr (kbt .u8) 15).toNat:Int))) fun i=>chk ((qo (((c++([92,120]:SS))++[e])++[i])).length * 1<=140737488355328) (d (((c++([92,120]:SS))++[e])++[i],(bif a<b.length then zY b a else a))))) else bif kwr .u32 (qK b a:Int)<=127 then bnd (u8I (kwr .u8 (qK b a:Int))) fun j=>chk ((qo (c++[j])).length * 1<=140737488355328) (d (c++[j],(bif a<b.length then zY b a else a))) else bif kwr .u32 (qK b a:Int)<=2047 then bnd (u8I (kwr .u8 ((jr (kbt .u8) 192 ||| jr (kbt .u8) (kwr .u8 (Int.fdiv (qK b a:Int) (2 ^ (min (Int.toNat 6) (kbt .i32)))))).toNat:Int))) fun k=>bnd (u8I (kwr .u8 ((jr (kbt .u8) 128 ||| jr (kbt .u8) (kwr .u8 ((jr (kbt .u8) (kwr .u8 (qK b a:Int)) &&& jr (kbt .u8) 63).toNat:Int))).toNat:Int))) fun l=>chk ((qo (c++[k,l])).length * 1<=140737488355328) (d (c++[k,l],(bif a<b.length then zY b a else a))) else bif kwr .u32 (qK b a:Int)<55296 then gm n b a c d (kwr .u32 (qK b a:Int)<55296) else gm n b a c d (bif 57343<kwr .u32 (qK b a:Int) then kwr .u32 (qK b a:Int)<=65535 else false)) else chk ((qo (c++[39])).length * 1<=140737488355328) (some (c++[39]))
def cN (n:Nat) (a:SS):Option SS:= chk ((qo [39]).length * 1<=140737488355328) (qy (vA n a) n ([39],0))
theorem FZ (n:Nat):∀(c r:SS),cN n c=some r->qh TP 96 [PV.str c] (RA5 r):=by
 intro c r h;unfold cN at h;refine zN Tryz.call96 Tryz.func96 [47,49,52,142,144,1000000] ?_;conv=>whnf
 refine zI Tryz.call49 Tryz.func49 [95,1000000] ?_;conv=>whnf
 refine zI Tryz.call95 Tryz.func95 [141,1000000] ?_;conv=>whnf
 refine⟨fun _=>?_,fun hf=>absurd hf (by first|decide|simp)⟩;conv=>whnf
 refine⟨⟨by decide,by first|decide|exact Nat.zero_lt_succ _⟩,?_⟩;conv=>whnf
 refine zh.noEscape Tryz.func141 (by kernel_rfl) (by kernel_rfl) (by kernel_rfl) (by kernel_rfl) ?_;conv=>whnf
 refine⟨by kernel_rfl,?_⟩;conv=>whnf
 refine⟨Codec.one zX [(39:UInt8)],qo [(39:UInt8)],.inl rfl,?_⟩;conv=>whnf
 obtain⟨a4,h⟩:=qu h;refine⟨⟨Codec.wide zX [(39:UInt8)],kod a4,xY a4 (by decide)⟩,?_⟩;conv=>whnf
 refine uh.fn [47,49,52,142,144,1000000] (S:=SS×Nat) (fun(a,b)=>[(0,pS c),(3,.ptr 0 0),(8,.ptr 1 0)]) (fun(a,b)=>[.box 124 [.ptr 0 0,.tsl 2 (qo a)],.sit c b,.tail 5 1 (qo a).length]) (B:=vA n c) h (wk [0,2,1] []) ?_;intro a7 st h;obtain⟨a,b⟩:=st;unfold vA at h;conv=>whnf
 refine⟨(decide (b<c.length)),(bif(decide (b<c.length))then zY c b else b),⟨rfl,rfl⟩,?_⟩;conv=>whnf
 apply ifc h<;>intro d h
 ·conv=>whnf
  refine⟨by assumption,?_⟩;conv=>whnf
  refine⟨by assumption,?_⟩;conv=>whnf
  refine⟨id,id,?_⟩;conv=>whnf
  apply ifc h<;>intro d h
  ·conv=>whnf
   refine zI Tryz.call49 Tryz.func49 [95,1000000] ?_;conv=>whnf
   refine zI Tryz.call95 Tryz.func95 [141,1000000] ?_;conv=>whnf
   refine⟨fun hf=>absurd hf (by first|decide|simp),fun _=>?_⟩;conv=>whnf
   refine⟨fun hf=>absurd hf (by first|decide|simp),fun _=>?_⟩;conv=>whnf
   refine⟨Codec.one zX [(92:UInt8)],qo [(92:UInt8)],.inl rfl,?_⟩;conv=>whnf
   rw[show qo a++qo [(92:UInt8)]=qo (a++[(92:UInt8)])from Codec.append zX a [(92:UInt8)]];conv=>whnf
   obtain⟨O,h⟩:=qu h;refine⟨⟨Codec.wide zX (a++[(92:UInt8)]),kod O,xY O (by decide)⟩,?_⟩;conv=>whnf
   refine⟨⟨rfl,rfl,rfl⟩,?_⟩;conv=>whnf
   refine zI Tryz.call142 Tryz.func142 [95,173,1000000] ?_;conv=>whnf
   refine zI Tryz.call95 Tryz.func95 [141,1000000] ?_;conv=>whnf
   refine⟨fun hf=>absurd hf (by first|decide|simp),fun _=>?_⟩;conv=>whnf
   refine⟨fun hf=>absurd hf (by first|decide|simp),fun _=>?_⟩;conv=>whnf
   refine zI Tryz.call173 Tryz.func173 [202,1000000] ?_;conv=>whnf
   apply ifc h<;>intro d h
   ·conv=>whnf
    refine bq h fun C a8 h=>?_;rw[show([[PV.int .u8 (kwr .u8 ((qK c b:Nat):Int))]]:List (List PV))=qo [C]from by rw[xj a8]; rfl];refine⟨Codec.one zX [C],_,.inl rfl,?_⟩;(conv=>whnf);rw[show qo (a++[(92:UInt8)])++qo [C]=qo ((a++[(92:UInt8)])++[C])from Codec.append zX (a++[(92:UInt8)]) [C]];(conv=>whnf);obtain⟨U,h⟩:=qu h;refine⟨⟨Codec.wide zX ((a++[(92:UInt8)])++[C]),kod U,xY U (by decide)⟩,?_⟩;(conv=>whnf);refine⟨⟨rfl,rfl,rfl⟩,?_⟩;(conv=>whnf);exact⟨(((a++[(92:UInt8)])++[C]),(bif(decide (b<c.length))then zY c b else b)),h,wk [0,1,4] []⟩
   conv=>whnf
   refine zI Tryz.call202 Tryz.func202 [1000000] ?_;conv=>whnf
   apply ifc h<;>intro d h
   ·conv=>whnf
    refine⟨by unfold gI; decide,?_⟩;(conv=>whnf);refine bq h fun D b9 h=>?_;refine bq h fun F c7 h=>?_;rw[show([[PV.int .u8 (kwr .u8 (((jr (kbt .u8) (192:Int) ||| jr (kbt .u8) (kwr .u8 (Int.fdiv ((qK c b:Nat):Int) (2 ^ (min (Int.toNat (6:Int)) (kbt .i32)))))).toNat:Nat):Int))],[PV.int .u8 (kwr .u8 (((jr (kbt .u8) (128:Int) ||| jr (kbt .u8) (kwr .u8 (((jr (kbt .u8) (kwr .u8 ((qK c b:Nat):Int)) &&& jr (kbt .u8) (63:Int)).toNat:Nat):Int))).toNat:Nat):Int))]]:List (List PV))=qo [D,F]from by rw[xj b9,xj c7]; rfl];refine⟨Codec.one zX [D,F],_,.inl rfl,?_⟩;(conv=>whnf);rw[show qo (a++[(92:UInt8)])++qo [D,F]=qo ((a++[(92:UInt8)])++[D,F])from Codec.append zX (a++[(92:UInt8)]) [D,F]];(conv=>whnf);obtain⟨a5,h⟩:=qu h;refine⟨⟨Codec.wide zX ((a++[(92:UInt8)])++[D,F]),kod a5,xY a5 (by decide)⟩,?_⟩;(conv=>whnf);refine⟨⟨rfl,rfl,rfl⟩,?_⟩;(conv=>whnf);exact⟨(((a++[(92:UInt8)])++[D,F]),(bif(decide (b<c.length))then zY c b else b)),h,wk [0,1,4] []⟩
   conv=>whnf
   refine rI.cut (S:=Bool) (fun L=>[(0,.tsl 3 (qo (a++[(92:UInt8)]))),(1,.p (.int .i32 ((qK c b:Nat):Int))),(5,.p (.int .u32 (kwr .u32 ((qK c b:Nat):Int)))),(25,pB L)]) (fun L=>[.box 124 [.ptr 0 0,.tsl 3 (qo (a++[(92:UInt8)]))],.sit c (bif(decide (b<c.length))then zY c b else b),.dead,.tail 5 1 (qo (a++[(92:UInt8)])).length]) (mI n c b a a7) (r:=r) ?_ ?_
   ·intro L h
    unfold mI at h;(conv=>whnf);apply ifc h<;>intro d h
    ·conv=>whnf
     refine⟨by unfold gI; decide,?_⟩;(conv=>whnf);refine⟨by unfold gI; decide,?_⟩;(conv=>whnf);refine bq h fun G d1 h=>?_;refine bq h fun H d2 h=>?_;refine bq h fun f d3 h=>?_;rw[show([[PV.int .u8 (kwr .u8 (((jr (kbt .u8) (224:Int) ||| jr (kbt .u8) (kwr .u8 (Int.fdiv ((qK c b:Nat):Int) (2 ^ (min (Int.toNat (12:Int)) (kbt .i32)))))).toNat:Nat):Int))],[PV.int .u8 (kwr .u8 (((jr (kbt .u8) (128:Int) ||| jr (kbt .u8) (kwr .u8 (((jr (kbt .u8) (kwr .u8 (Int.fdiv ((qK c b:Nat):Int) (2 ^ (min (Int.toNat (6:Int)) (kbt .i32))))) &&& jr (kbt .u8) (63:Int)).toNat:Nat):Int))).toNat:Nat):Int))],[PV.int .u8 (kwr .u8 (((jr (kbt .u8) (128:Int) ||| jr (kbt .u8) (kwr .u8 (((jr (kbt .u8) (kwr .u8 ((qK c b:Nat):Int)) &&& jr (kbt .u8) (63:Int)).toNat:Nat):Int))).toNat:Nat):Int))]]:List (List PV))=qo [G,H,f]from by rw[xj d1,xj d2,xj d3]; rfl];refine⟨Codec.one zX [G,H,f],_,.inl rfl,?_⟩;(conv=>whnf);rw[show qo (a++[(92:UInt8)])++qo [G,H,f]=qo ((a++[(92:UInt8)])++[G,H,f])from Codec.append zX (a++[(92:UInt8)]) [G,H,f]];(conv=>whnf);obtain⟨a6,h⟩:=qu h;refine⟨⟨Codec.wide zX ((a++[(92:UInt8)])++[G,H,f]),kod a6,xY a6 (by decide)⟩,?_⟩;(conv=>whnf);refine⟨⟨rfl,rfl,rfl⟩,?_⟩;(conv=>whnf);exact⟨(((a++[(92:UInt8)])++[G,H,f]),(bif(decide (b<c.length))then zY c b else b)),h,wk [0,1,4] []⟩
    (conv=>whnf);refine⟨id,id,?_⟩
    (conv=>whnf);apply ifc h<;>intro d h
    ·conv=>whnf
     refine⟨by unfold gI; decide,?_⟩;(conv=>whnf);refine⟨by unfold gI; decide,?_⟩;(conv=>whnf);refine⟨by unfold gI; decide,?_⟩;(conv=>whnf);refine bq h fun g a9 h=>?_;refine bq h fun i b0 h=>?_;refine bq h fun l b1 h=>?_;refine bq h fun m b2 h=>?_;rw[show([[PV.int .u8 (kwr .u8 (((jr (kbt .u8) (240:Int) ||| jr (kbt .u8) (kwr .u8 (Int.fdiv ((qK c b:Nat):Int) (2 ^ (min (Int.toNat (18:Int)) (kbt .i32)))))).toNat:Nat):Int))],[PV.int .u8 (kwr .u8 (((jr (kbt .u8) (128:Int) ||| jr (kbt .u8) (kwr .u8 (((jr (kbt .u8) (kwr .u8 (Int.fdiv ((qK c b:Nat):Int) (2 ^ (min (Int.toNat (12:Int)) (kbt .i32))))) &&& jr (kbt .u8) (63:Int)).toNat:Nat):Int))).toNat:Nat):Int))],[PV.int .u8 (kwr .u8 (((jr (kbt .u8) (128:Int) ||| jr (kbt .u8) (kwr .u8 (((jr (kbt .u8) (kwr .u8 (Int.fdiv ((qK c b:Nat):Int) (2 ^ (min (Int.toNat (6:Int)) (kbt .i32))))) &&& jr (kbt .u8) (63:Int)).toNat:Nat):Int))).toNat:Nat):Int))],[PV.int .u8 (kwr .u8 (((jr (kbt .u8) (128:Int) ||| jr (kbt .u8) (kwr .u8 (((jr (kbt .u8) (kwr .u8 ((qK c b:Nat):Int)) &&& jr (kbt .u8) (63:Int)).toNat:Nat):Int))).toNat:Nat):Int))]]:List (List PV))=qo [g,i,l,m]from by rw[xj a9,xj b0,xj b1,xj b2]; rfl];refine⟨Codec.one zX [g,i,l,m],_,.inl rfl,?_⟩;(conv=>whnf);rw[show qo (a++[(92:UInt8)])++qo [g,i,l,m]=qo ((a++[(92:UInt8)])++[g,i,l,m])from Codec.append zX (a++[(92:UInt8)]) [g,i,l,m]];(conv=>whnf);obtain⟨M,h⟩:=qu h;refine⟨⟨Codec.wide zX ((a++[(92:UInt8)])++[g,i,l,m]),kod M,xY M (by decide)⟩,?_⟩;(conv=>whnf);refine⟨⟨rfl,rfl,rfl⟩,?_⟩;(conv=>whnf);exact⟨(((a++[(92:UInt8)])++[g,i,l,m]),(bif(decide (b<c.length))then zY c b else b)),h,wk [0,1,4] []⟩
    (conv=>whnf);refine⟨Codec.one zX [(239:UInt8),(191:UInt8),(189:UInt8)],qo [(239:UInt8),(191:UInt8),(189:UInt8)],.inl rfl,?_⟩
    (conv=>whnf);rw[show qo (a++[(92:UInt8)])++qo [(239:UInt8),(191:UInt8),(189:UInt8)]=qo ((a++[(92:UInt8)])++[(239:UInt8),(191:UInt8),(189:UInt8)])from Codec.append zX (a++[(92:UInt8)]) [(239:UInt8),(191:UInt8),(189:UInt8)]]
    (conv=>whnf);obtain⟨N,h⟩:=qu h
    refine⟨⟨Codec.wide zX ((a++[(92:UInt8)])++[(239:UInt8),(191:UInt8),(189:UInt8)]),kod N,xY N (by decide)⟩,?_⟩;(conv=>whnf);refine⟨⟨rfl,rfl,rfl⟩,?_⟩;(conv=>whnf);exact⟨(((a++[(92:UInt8)])++[(239:UInt8),(191:UInt8),(189:UInt8)]),(bif(decide (b<c.length))then zY c b else b)),h,wk [0,1,4] []⟩
   conv=>whnf
   apply ifc h<;>intro d h
   ·conv=>whnf
    exact⟨(decide ((kwr .u32 ((qK c b:Nat):Int))<55296)),h,wk [0,1,2,3] []⟩
   conv=>whnf
   refine⟨id,id,?_⟩;conv=>whnf
   exact⟨(bif(decide ((57343:Int)<(kwr .u32 ((qK c b:Nat):Int))))then(decide ((kwr .u32 ((qK c b:Nat):Int))<=65535))else false),h,wk [0,1,2,3] []⟩
  conv=>whnf
  apply ifc h<;>intro d h
  ·conv=>whnf
   refine zI Tryz.call47 Tryz.func47 [95,1000000] ?_;conv=>whnf
   refine zI Tryz.call95 Tryz.func95 [141,1000000] ?_;conv=>whnf
   refine⟨fun hf=>absurd hf (by first|decide|simp),fun _=>?_⟩;conv=>whnf
   refine⟨fun hf=>absurd hf (by first|decide|simp),fun _=>?_⟩;conv=>whnf
   rw[show qo a++qo ([92,110]:SS)=qo (a++([92,110]:SS))from Codec.append zX a ([92,110]:SS)];conv=>whnf
   obtain⟨P,h⟩:=qu h;refine⟨⟨Codec.wide zX a,kod P,xY P (by decide)⟩,?_⟩;conv=>whnf
   refine⟨⟨rfl,rfl,rfl⟩,?_⟩;conv=>whnf
   exact⟨((a++([92,110]:SS)),(bif(decide (b<c.length))then zY c b else b)),h,wk [0,1,3] []⟩
  conv=>whnf
  apply ifc h<;>intro d h
  ·conv=>whnf
   refine zI Tryz.call47 Tryz.func47 [95,1000000] ?_;conv=>whnf
   refine zI Tryz.call95 Tryz.func95 [141,1000000] ?_;conv=>whnf
   refine⟨fun hf=>absurd hf (by first|decide|simp),fun _=>?_⟩;conv=>whnf
   refine⟨fun hf=>absurd hf (by first|decide|simp),fun _=>?_⟩;conv=>whnf
   rw[show qo a++qo ([92,116]:SS)=qo (a++([92,116]:SS))from Codec.append zX a ([92,116]:SS)];conv=>whnf
   obtain⟨Q,h⟩:=qu h;refine⟨⟨Codec.wide zX a,kod Q,xY Q (by decide)⟩,?_⟩;conv=>whnf
   refine⟨⟨rfl,rfl,rfl⟩,?_⟩;conv=>whnf
   exact⟨((a++([92,116]:SS)),(bif(decide (b<c.length))then zY c b else b)),h,wk [0,1,3] []⟩
  conv=>whnf
  apply ifc h<;>intro d h
  ·conv=>whnf
   refine zI Tryz.call47 Tryz.func47 [95,1000000] ?_;conv=>whnf
   refine zI Tryz.call95 Tryz.func95 [141,1000000] ?_;conv=>whnf
   refine⟨fun hf=>absurd hf (by first|decide|simp),fun _=>?_⟩;conv=>whnf
   refine⟨fun hf=>absurd hf (by first|decide|simp),fun _=>?_⟩;conv=>whnf
   rw[show qo a++qo ([92,114]:SS)=qo (a++([92,114]:SS))from Codec.append zX a ([92,114]:SS)];conv=>whnf
   obtain⟨R,h⟩:=qu h;refine⟨⟨Codec.wide zX a,kod R,xY R (by decide)⟩,?_⟩;conv=>whnf
   refine⟨⟨rfl,rfl,rfl⟩,?_⟩;conv=>whnf
   exact⟨((a++([92,114]:SS)),(bif(decide (b<c.length))then zY c b else b)),h,wk [0,1,3] []⟩
  conv=>whnf
  iterate 6 refine⟨id,?_⟩
  conv=>whnf
  refine bq h fun J d0 h=>⟨_,fun I=>cV (fC d0 I),?_⟩;conv=>whnf
  obtain⟨c9,h⟩:=qu h;refine⟨fun I=>⟨(kod (gd c9 I):(J<=c.length)),Nat.le_refl _⟩,?_⟩;rw[show List.drop J (List.take c.length c)=(c.drop J)from by rw[List.take_length]];conv=>whnf
  refine⟨id,?_⟩;conv=>whnf
  refine bq h fun _ c8 h=>⟨_,fun I=>(F_strings_HasPrefix_ok n _ _ _ (fC c8 I)),?_⟩;conv=>whnf
  refine⟨id,id,id,id,?_⟩;conv=>whnf
  apply ifc h<;>intro d h
  ·conv=>whnf
   refine bq h fun _ b5 h=>⟨_,QK b5,?_⟩;conv=>whnf
   refine zI Tryz.call144 Tryz.func144 [47,49,1000000] ?_;conv=>whnf
   refine zI Tryz.call47 Tryz.func47 [95,1000000] ?_;conv=>whnf
   refine zI Tryz.call95 Tryz.func95 [141,1000000] ?_;conv=>whnf
   refine⟨fun hf=>absurd hf (by first|decide|simp),fun _=>?_⟩;conv=>whnf
   refine⟨fun hf=>absurd hf (by first|decide|simp),fun _=>?_⟩;conv=>whnf
   rw[show qo a++qo ([92,120]:SS)=qo (a++([92,120]:SS))from Codec.append zX a ([92,120]:SS)];conv=>whnf
   obtain⟨X,h⟩:=qu h;refine⟨⟨Codec.wide zX a,kod X,xY X (by decide)⟩,?_⟩;conv=>whnf
   refine⟨⟨rfl,rfl,rfl⟩,?_⟩;conv=>whnf
   refine⟨by unfold gI; decide,?_⟩;conv=>whnf
   refine bq h fun e b4 h=>⟨_,QK b4,?_⟩;conv=>whnf
   refine zI Tryz.call49 Tryz.func49 [95,1000000] ?_;conv=>whnf
   refine zI Tryz.call95 Tryz.func95 [141,1000000] ?_;conv=>whnf
   refine⟨fun hf=>absurd hf (by first|decide|simp),fun _=>?_⟩;conv=>whnf
   refine⟨fun hf=>absurd hf (by first|decide|simp),fun _=>?_⟩;conv=>whnf
   refine⟨Codec.one zX [e],qo [e],.inl rfl,?_⟩;conv=>whnf
   rw[show qo (a++([92,120]:SS))++qo [e]=qo ((a++([92,120]:SS))++[e])from Codec.append zX (a++([92,120]:SS)) [e]];conv=>whnf
   obtain⟨W,h⟩:=qu h;refine⟨⟨Codec.wide zX ((a++([92,120]:SS))++[e]),kod W,xY W (by decide)⟩,?_⟩;conv=>whnf
   refine⟨⟨rfl,rfl,rfl⟩,?_⟩;conv=>whnf
   refine bq h fun o b3 h=>⟨_,QK b3,?_⟩;conv=>whnf
   refine zI Tryz.call49 Tryz.func49 [95,1000000] ?_;conv=>whnf
   refine zI Tryz.call95 Tryz.func95 [141,1000000] ?_;conv=>whnf
   refine⟨fun hf=>absurd hf (by first|decide|simp),fun _=>?_⟩;conv=>whnf
   refine⟨fun hf=>absurd hf (by first|decide|simp),fun _=>?_⟩;conv=>whnf
   refine⟨Codec.one zX [o],qo [o],.inl rfl,?_⟩;conv=>whnf
   rw[show qo ((a++([92,120]:SS))++[e])++qo [o]=qo (((a++([92,120]:SS))++[e])++[o])from Codec.append zX ((a++([92,120]:SS))++[e]) [o]];conv=>whnf
   obtain⟨V,h⟩:=qu h;refine⟨⟨Codec.wide zX (((a++([92,120]:SS))++[e])++[o]),kod V,xY V (by decide)⟩,?_⟩;conv=>whnf
   refine⟨⟨rfl,rfl,rfl⟩,?_⟩;conv=>whnf
   exact⟨((((a++([92,120]:SS))++[e])++[o]),(bif(decide (b<c.length))then zY c b else b)),h,wk [0,1,5] []⟩
  conv=>whnf
  refine zI Tryz.call142 Tryz.func142 [95,173,1000000] ?_;conv=>whnf
  refine zI Tryz.call95 Tryz.func95 [141,1000000] ?_;conv=>whnf
  refine⟨fun hf=>absurd hf (by first|decide|simp),fun _=>?_⟩;conv=>whnf
  refine⟨fun hf=>absurd hf (by first|decide|simp),fun _=>?_⟩;conv=>whnf
  refine zI Tryz.call173 Tryz.func173 [202,1000000] ?_;conv=>whnf
  apply ifc h<;>intro d h
  ·conv=>whnf
   refine bq h fun q b6 h=>?_;rw[show([[PV.int .u8 (kwr .u8 ((qK c b:Nat):Int))]]:List (List PV))=qo [q]from by rw[xj b6]; rfl];refine⟨Codec.one zX [q],_,.inl rfl,?_⟩;conv=>whnf
   rw[show qo a++qo [q]=qo (a++[q])from Codec.append zX a [q]];conv=>whnf
   obtain⟨Y,h⟩:=qu h;refine⟨⟨Codec.wide zX (a++[q]),kod Y,xY Y (by decide)⟩,?_⟩;conv=>whnf
   refine⟨⟨rfl,rfl,rfl⟩,?_⟩;conv=>whnf
   exact⟨((a++[q]),(bif(decide (b<c.length))then zY c b else b)),h,wk [0,1,3] []⟩
  conv=>whnf
  refine zI Tryz.call202 Tryz.func202 [1000000] ?_;conv=>whnf
  apply ifc h<;>intro d h
  ·conv=>whnf
   refine⟨by unfold gI; decide,?_⟩;conv=>whnf
   refine bq h fun s b7 h=>?_;refine bq h fun t b8 h=>?_;rw[show([[PV.int .u8 (kwr .u8 (((jr (kbt .u8) (192:Int) ||| jr (kbt .u8) (kwr .u8 (Int.fdiv ((qK c b:Nat):Int) (2 ^ (min (Int.toNat (6:Int)) (kbt .i32)))))).toNat:Nat):Int))],[PV.int .u8 (kwr .u8 (((jr (kbt .u8) (128:Int) ||| jr (kbt .u8) (kwr .u8 (((jr (kbt .u8) (kwr .u8 ((qK c b:Nat):Int)) &&& jr (kbt .u8) (63:Int)).toNat:Nat):Int))).toNat:Nat):Int))]]:List (List PV))=qo [s,t]from by rw[xj b7,xj b8]; rfl];refine⟨Codec.one zX [s,t],_,.inl rfl,?_⟩;conv=>whnf
   rw[show qo a++qo [s,t]=qo (a++[s,t])from Codec.append zX a [s,t]];conv=>whnf
   obtain⟨Z,h⟩:=qu h;refine⟨⟨Codec.wide zX (a++[s,t]),kod Z,xY Z (by decide)⟩,?_⟩;conv=>whnf
   refine⟨⟨rfl,rfl,rfl⟩,?_⟩;conv=>whnf
   exact⟨((a++[s,t]),(bif(decide (b<c.length))then zY c b else b)),h,wk [0,1,3] []⟩
  conv=>whnf
  refine rI.cut (S:=Bool) (fun K=>[(0,.tsl 2 (qo a)),(1,.p (.int .i32 ((qK c b:Nat):Int))),(5,.p (.int .u32 (kwr .u32 ((qK c b:Nat):Int)))),(25,pB K)]) (fun K=>[.box 124 [.ptr 0 0,.tsl 2 (qo a)],.sit c (bif(decide (b<c.length))then zY c b else b),.tail 5 1 (qo a).length]) (gm n c b a a7) (r:=r) ?_ ?_
  ·intro K h
   unfold gm at h;conv=>whnf
   apply ifc h<;>intro d h
   ·conv=>whnf
    refine⟨by unfold gI; decide,?_⟩;(conv=>whnf);refine⟨by unfold gI; decide,?_⟩;(conv=>whnf);refine bq h fun u c0 h=>?_;refine bq h fun v c1 h=>?_;refine bq h fun w c2 h=>?_;rw[show([[PV.int .u8 (kwr .u8 (((jr (kbt .u8) (224:Int) ||| jr (kbt .u8) (kwr .u8 (Int.fdiv ((qK c b:Nat):Int) (2 ^ (min (Int.toNat (12:Int)) (kbt .i32)))))).toNat:Nat):Int))],[PV.int .u8 (kwr .u8 (((jr (kbt .u8) (128:Int) ||| jr (kbt .u8) (kwr .u8 (((jr (kbt .u8) (kwr .u8 (Int.fdiv ((qK c b:Nat):Int) (2 ^ (min (Int.toNat (6:Int)) (kbt .i32))))) &&& jr (kbt .u8) (63:Int)).toNat:Nat):Int))).toNat:Nat):Int))],[PV.int .u8 (kwr .u8 (((jr (kbt .u8) (128:Int) ||| jr (kbt .u8) (kwr .u8 (((jr (kbt .u8) (kwr .u8 ((qK c b:Nat):Int)) &&& jr (kbt .u8) (63:Int)).toNat:Nat):Int))).toNat:Nat):Int))]]:List (List PV))=qo [u,v,w]from by rw[xj c0,xj c1,xj c2]; rfl];refine⟨Codec.one zX [u,v,w],_,.inl rfl,?_⟩;(conv=>whnf);rw[show qo a++qo [u,v,w]=qo (a++[u,v,w])from Codec.append zX a [u,v,w]];(conv=>whnf);obtain⟨a0,h⟩:=qu h;refine⟨⟨Codec.wide zX (a++[u,v,w]),kod a0,xY a0 (by decide)⟩,?_⟩;(conv=>whnf);refine⟨⟨rfl,rfl,rfl⟩,?_⟩;(conv=>whnf);exact⟨((a++[u,v,w]),(bif(decide (b<c.length))then zY c b else b)),h,wk [0,1,3] []⟩
   conv=>whnf
   refine⟨id,id,?_⟩;conv=>whnf
   apply ifc h<;>intro d h
   ·conv=>whnf
    refine⟨by unfold gI; decide,?_⟩;(conv=>whnf);refine⟨by unfold gI; decide,?_⟩;(conv=>whnf);refine⟨by unfold gI; decide,?_⟩;(conv=>whnf);refine bq h fun x c3 h=>?_;refine bq h fun y c4 h=>?_;refine bq h fun z c5 h=>?_;refine bq h fun A c6 h=>?_;rw[show([[PV.int .u8 (kwr .u8 (((jr (kbt .u8) (240:Int) ||| jr (kbt .u8) (kwr .u8 (Int.fdiv ((qK c b:Nat):Int) (2 ^ (min (Int.toNat (18:Int)) (kbt .i32)))))).toNat:Nat):Int))],[PV.int .u8 (kwr .u8 (((jr (kbt .u8) (128:Int) ||| jr (kbt .u8) (kwr .u8 (((jr (kbt .u8) (kwr .u8 (Int.fdiv ((qK c b:Nat):Int) (2 ^ (min (Int.toNat (12:Int)) (kbt .i32))))) &&& jr (kbt .u8) (63:Int)).toNat:Nat):Int))).toNat:Nat):Int))],[PV.int .u8 (kwr .u8 (((jr (kbt .u8) (128:Int) ||| jr (kbt .u8) (kwr .u8 (((jr (kbt .u8) (kwr .u8 (Int.fdiv ((qK c b:Nat):Int) (2 ^ (min (Int.toNat (6:Int)) (kbt .i32))))) &&& jr (kbt .u8) (63:Int)).toNat:Nat):Int))).toNat:Nat):Int))],[PV.int .u8 (kwr .u8 (((jr (kbt .u8) (128:Int) ||| jr (kbt .u8) (kwr .u8 (((jr (kbt .u8) (kwr .u8 ((qK c b:Nat):Int)) &&& jr (kbt .u8) (63:Int)).toNat:Nat):Int))).toNat:Nat):Int))]]:List (List PV))=qo [x,y,z,A]from by rw[xj c3,xj c4,xj c5,xj c6]; rfl];refine⟨Codec.one zX [x,y,z,A],_,.inl rfl,?_⟩;(conv=>whnf);rw[show qo a++qo [x,y,z,A]=qo (a++[x,y,z,A])from Codec.append zX a [x,y,z,A]];(conv=>whnf);obtain⟨a1,h⟩:=qu h;refine⟨⟨Codec.wide zX (a++[x,y,z,A]),kod a1,xY a1 (by decide)⟩,?_⟩;(conv=>whnf);refine⟨⟨rfl,rfl,rfl⟩,?_⟩;(conv=>whnf);exact⟨((a++[x,y,z,A]),(bif(decide (b<c.length))then zY c b else b)),h,wk [0,1,3] []⟩
   conv=>whnf
   refine⟨Codec.one zX [(239:UInt8),(191:UInt8),(189:UInt8)],qo [(239:UInt8),(191:UInt8),(189:UInt8)],.inl rfl,?_⟩;conv=>whnf
   rw[show qo a++qo [(239:UInt8),(191:UInt8),(189:UInt8)]=qo (a++[(239:UInt8),(191:UInt8),(189:UInt8)])from Codec.append zX a [(239:UInt8),(191:UInt8),(189:UInt8)]];conv=>whnf
   obtain⟨a2,h⟩:=qu h;refine⟨⟨Codec.wide zX (a++[(239:UInt8),(191:UInt8),(189:UInt8)]),kod a2,xY a2 (by decide)⟩,?_⟩;conv=>whnf
   refine⟨⟨rfl,rfl,rfl⟩,?_⟩;conv=>whnf
   exact⟨((a++[(239:UInt8),(191:UInt8),(189:UInt8)]),(bif(decide (b<c.length))then zY c b else b)),h,wk [0,1,3] []⟩
  conv=>whnf
  apply ifc h<;>intro d h
  ·conv=>whnf
   exact⟨(decide ((kwr .u32 ((qK c b:Nat):Int))<55296)),h,wk [0,1,2] []⟩
  conv=>whnf
  refine⟨id,id,?_⟩;conv=>whnf
  exact⟨(bif(decide ((57343:Int)<(kwr .u32 ((qK c b:Nat):Int))))then(decide ((kwr .u32 ((qK c b:Nat):Int))<=65535))else false),h,wk [0,1,2] []⟩
 conv=>whnf
 refine zI Tryz.call49 Tryz.func49 [95,1000000] ?_;conv=>whnf
 refine zI Tryz.call95 Tryz.func95 [141,1000000] ?_;conv=>whnf
 refine⟨fun hf=>absurd hf (by first|decide|simp),fun _=>?_⟩;conv=>whnf
 refine⟨fun hf=>absurd hf (by first|decide|simp),fun _=>?_⟩;conv=>whnf
 refine⟨Codec.one zX [(39:UInt8)],qo [(39:UInt8)],.inl rfl,?_⟩;conv=>whnf
 rw[show qo a++qo [(39:UInt8)]=qo (a++[(39:UInt8)])from Codec.append zX a [(39:UInt8)]];conv=>whnf
 obtain⟨a3,h⟩:=qu h;refine⟨⟨Codec.wide zX (a++[(39:UInt8)]),kod a3,xY a3 (by decide)⟩,?_⟩;conv=>whnf
 refine⟨⟨rfl,rfl,rfl⟩,?_⟩;conv=>whnf
 refine zh.string_any (T:=124) (E:=5) DV tT tS (k:=0) (j:=3) (bs:=(a++[(39:UInt8)])) (n:=(qo (a++[(39:UInt8)])).length) rfl rfl ?_;obtain rfl:=sj h;conv=>whnf
 try exact fin
instance (n:Nat) (a:SS):CC TP (cN n a) 96 [PV.str a] RA5:=⟨FZ n a⟩
def dS (n:Nat) (a:SS):LK (Nat) (Bool):=fun c b=>bif b<a.length then bif bif !(bif bif bif (qK a b:Int)≥97 then (qK a b:Int)<=122 else false then true else bif (qK a b:Int)≥65 then (qK a b:Int)<=90 else false then true else (qK a b:Int)==95) then bif bif (b:Int)==0 then true else (qK a b:Int)<48 then true else (qK a b:Int)>57 else false then some false else c (bif b<a.length then zY a b else b) else some (bif !(a==([]:SS)) then (a.length:Int)<=64 else false)
def sR (n:Nat) (a:SS):Option (Bool):= qy (dS n a) n 0
instance (n a):LL (dS n a) [0,7] (fun b=>[]) [0] (fun b=>[(0,.sit a b)]):=⟨⟩
instance (n a):CC TP (sR n a) 99 [PV.str a] RA0:=⟨fun r h=>by
 unfold sR at h;exact zN Tryz.call99 Tryz.func99 [1000000] au⟩
end W
end
section
set_option maxRecDepth 100000
set_option maxHeartbeats 20000000
open Go Go.Proofs Ax
attribute [local irreducible] zh rI uh
namespace W
instance (n:Nat) (a:List SS) (b:SS):CC TP (ck n a b) 97 [.sl (qv a),.str b] .str:=⟨UN n a b⟩
def bV (n:Nat) (a:SS):Option SS:= bnd (sR n a) fun b=>bif b then some a else bnd (cN n a) fun c=>some c
theorem rm (n:Nat):∀(a r:SS),bV n a=some r->qh TP 51 [PV.str a] (RA5 r):=by
 intro a r h;unfold bV at h;exact zN Tryz.call51 Tryz.func51 [1000000] au
instance (n:Nat) (a:SS):CC TP (bV n a) 51 [PV.str a] RA5:=⟨rm n a⟩
def dV (n:Nat) (a:List SS) (c:List SS×Int->Option SS) (d:Int):SS->Option SS:=fun b=>chk ((qv (a++[b])).length * 16<=140737488355328) (c (a++[b],kwr .i64 (d+1)))
abbrev qer:Type:=Val->Option SS
def tQ (n:Nat) (j:List Val) (g48:qer) (i:Int) (k:List SS):(List SS×Int->Option SS)->List SS×Int->Option SS:=fun g (b,a)=>bif a<((Val.rows j).length:Int) then bnd (idx j a) fun⟨l,m,o,p,q,s⟩=>bnd (g48 (Val.mk l m o p q s)) fun c=>bif bif i==5 then a<((qv k).length:Int) else false then bnd (idx k a) fun t=>bnd (bV n t) fun d=>chk (((d.length+([58,32]:SS).length:Nat):Int)<=te) (chk ((((d++([58,32]:SS)).length+c.length:Nat):Int)<=te) (dV n b g a ((d++([58,32]:SS))++c))) else dV n b g a c else bif i==5 then bnd (ck n b ([44,32]:SS)) fun e=>chk (((([123]:SS).length+e.length:Nat):Int)<=te) (chk ((((([123]:SS)++e).length+([125]:SS).length:Nat):Int)<=te) (some ((([123]:SS)++e)++([125]:SS)))) else bnd (ck n b ([44,32]:SS)) fun f=>chk (((([91]:SS).length+f.length:Nat):Int)<=te) (chk ((((([91]:SS)++f).length+([93]:SS).length:Nat):Int)<=te) (some ((([91]:SS)++f)++([93]:SS))))
def dU (n:Nat) (c:List Val) (g48:qer) (a:Int) (d:List SS):Bool->Option SS:=fun b=>bif b then qy (tQ n c g48 a d) n (([]:List _),0) else some ([110,117,108,108]:SS)
def nQ (n:Nat) (g48:qer) (g:Val):Option SS:= match g with | ⟨a,i,b,j,d,e⟩=>bif a==1 then bif i then some ([116,114,117,101]:SS) else some ([102,97,108,115,101]:SS) else bif a==2 then bnd (uZ n b) fun k=>some k else bif a==3 then bnd (cN n j) fun l=>some l else bif a==6 then bnd (uZ n b) fun f=>chk (((([35,110]:SS).length+f.length:Nat):Int)<=te) (some (([35,110]:SS)++f)) else bif a==7 then bnd (uZ n b) fun c=>chk (((([35,101]:SS).length+c.length:Nat):Int)<=te) (some (([35,101]:SS)++c)) else bif a==4 then dU n d g48 a e (a==4) else dU n d g48 a e (a==5)
instance (n c g48 a d):LJ (dU n c g48 a d) [1] (fun b=>[(35,pB b)]) [0]:=⟨⟩
instance (n d g48 c e):LL (tQ n d g48 c e) [1,39,40] (fun(a,b)=>[(3,.tsl 1 (qv a)),(41,pI b)]) [0,0] (fun(a,b)=>[(1,.tail 9 1 (qv a).length)]):=⟨⟩
instance (n b a c):LJ (dV n b a c) [1,3,39,40,41] (fun d=>[(6,pS d)]) [0,1]:=⟨⟩
theorem FG (n:Nat) (g48:qer) (g48_ok:∀(a:Val) (r:SS),g48 a=some r->qh TP 48 [PV.agg (zx.cells a)] (RA5 r)):∀(a:Val) (r:SS),nQ n g48 a=some r->qh TP 48 [PV.agg (zx.cells a)] (RA5 r):=by
 have:=fun a=>CC.mk (g48_ok a);intro a r h;obtain⟨_,_,_,_,_,_⟩:=a;unfold nQ at h;exact zN Tryz.call48 Tryz.func48 [1000000] au
def gp:Nat->Val->Option SS
 | 0=>fun _=>none
 | n+1=>nQ n (gp n)

theorem Ca (n:Nat):(∀(a:Val) (r:SS),gp n a=some r->qh TP 48 [PV.agg (zx.cells a)] (RA5 r)):=by
 induction n with
 | zero=>exact(by intros; rename_i h; cases h)
 | succ n ih=>
  have hg48:=ih;exact FG n (gp n) hg48
theorem nK (n:Nat):∀(a:Val) (r:SS),gp n a=some r->qh TP 48 [PV.agg (zx.cells a)] (RA5 r):=(Ca n)
instance (n:Nat) (a:Val):CC TP (gp n a) 48 [PV.agg (zx.cells a)] RA5:=⟨nK n a⟩
def bS (n:Nat) (g:Val):Option (Val×Int):= match g with | ⟨a,b,c,d,e,f⟩=>bif a==3 then some (Val.mk a b c d e f,0) else bnd (gp n (Val.mk a b c d e f)) fun v=>bnd (gY n v) fun⟨w,x,i,j,k,l⟩=>bnd (gX n (Val.mk w x i j k l)) fun⟨⟨m,o,p,q,s,t⟩,u⟩=>some (Val.mk m o p q s t,u)
theorem ZR (n:Nat):∀(a:Val) (r:Val×Int),bS n a=some r->qh TP 265 [PV.agg (zx.cells a)] (rH r):=by
 intro a r h;obtain⟨_,_,_,_,_,_⟩:=a;unfold bS at h;exact zN Tryz.call265 Tryz.func265 [1000000] au
instance (n:Nat) (a:Val):CC TP (bS n a) 265 [PV.agg (zx.cells a)] rH:=⟨ZR n a⟩
end W
end
section
set_option maxRecDepth 100000
set_option maxHeartbeats 20000000
open Go Go.Proofs Ax
attribute [local irreducible] zh rI uh
namespace W
def uX (n:Nat) (q:xu) (b:SS) (a:List Val):Option (Val×Int):= match q with | ⟨⟨d,f⟩,⟨g,i⟩,⟨j,k,l,m,o,e⟩⟩=>bnd (qB n a) fun c=>bif bif b==([99,111,97,108,101,115,99,101]:SS) then ((Val.rows a).length:Int)>0 else false then bnd (qw n a) fun p=>bnd (idx a (bif decide (0>p)then0else p)) fun⟨b0,b1,b2,b3,b4,b5⟩=>some (Val.mk b0 b1 b2 b3 b4 b5,0) else bif bif b==([114,97,110,103,101]:SS) then ((Val.rows a).length:Int)==2 else false then bif c then some (Val.mk 0 false 0 ([]:SS) ([]:List Val) ([]:List SS),0) else bnd (idx a 0) fun⟨b6,b7,b8,b9,c0,c1⟩=>bnd (idx a 1) fun⟨c2,c3,c4,c5,c6,c7⟩=>bnd (nt n (Val.mk b6 b7 b8 b9 c0 c1) (Val.mk c2 c3 c4 c5 c6 c7)) fun⟨⟨c8,c9,d0,d1,d2,d3⟩,d4⟩=>some (Val.mk c8 c9 d0 d1 d2 d3,d4) else bif ((Val.rows a).length:Int) != 1 then some (Val.mk 0 false 0 ([]:SS) ([]:List Val) ([]:List SS),2) else bif b==([115,105,122,101]:SS) then bif c then some (Val.mk 0 false 0 ([]:SS) ([]:List Val) ([]:List SS),0) else bnd (idx a 0) fun⟨X,Y,Z,a0,a1,a2⟩=>bnd (nr n (Val.mk X Y Z a0 a1 a2)) fun⟨⟨a3,a4,a5,a6,a7,a8⟩,a9⟩=>some (Val.mk a3 a4 a5 a6 a7 a8,a9) else bif b==([97,98,115]:SS) then bif c then some (Val.mk 0 false 0 ([]:SS) ([]:List Val) ([]:List SS),0) else bnd (idx a 0) fun⟨K,L,M,N,O,P⟩=>bnd (vF n (Val.mk K L M N O P)) fun⟨⟨Q,R,S,T,U,V⟩,W⟩=>some (Val.mk Q R S T U V,W) else bif b==([107,101,121,115]:SS) then bif c then some (Val.mk 0 false 0 ([]:SS) ([]:List Val) ([]:List SS),0) else bnd (idx a 0) fun⟨x,y,z,A,B,C⟩=>bnd (uY n (xu.mk (Env.mk d f) (Graph.mk g i) (Val.mk j k l m o e)) (Val.mk x y z A B C)) fun⟨⟨D,E,F,G,H,I⟩,J⟩=>some (Val.mk D E F G H I,J) else bif b==([108,97,98,101,108,115]:SS) then bif c then some (Val.mk 0 false 0 ([]:SS) ([]:List Val) ([]:List SS),0) else bnd (idx a 0) fun⟨j7,j8,j9,k0,k1,k2⟩=>bnd (uz n (Val.mk j7 j8 j9 k0 k1 k2) (xu.mk (Env.mk d f) (Graph.mk g i) (Val.mk j k l m o e))) fun⟨⟨k3,k4,s,t,u,v⟩,w⟩=>some (Val.mk k3 k4 s t u v,w) else bif b==([116,121,112,101]:SS) then bif c then some (Val.mk 0 false 0 ([]:SS) ([]:List Val) ([]:List SS),0) else bnd (idx a 0) fun⟨i4,i5,i6,i7,i8,i9⟩=>bnd (uA n (Val.mk i4 i5 i6 i7 i8 i9) (xu.mk (Env.mk d f) (Graph.mk g i) (Val.mk j k l m o e))) fun⟨⟨j0,j1,j2,j3,j4,j5⟩,j6⟩=>some (Val.mk j0 j1 j2 j3 j4 j5,j6) else bif b==([104,101,97,100]:SS) then bif c then some (Val.mk 0 false 0 ([]:SS) ([]:List Val) ([]:List SS),0) else bnd (idx a 0) fun⟨g1,g2,g3,g4,g5,g6⟩=>bnd (uB n (Val.mk g1 g2 g3 g4 g5 g6)) fun⟨⟨g7,g8,g9,i0,i1,i2⟩,i3⟩=>some (Val.mk g7 g8 g9 i0 i1 i2,i3) else bif b==([108,97,115,116]:SS) then bif c then some (Val.mk 0 false 0 ([]:SS) ([]:List Val) ([]:List SS),0) else bnd (idx a 0) fun⟨e8,e9,f0,f1,f2,f3⟩=>bnd (uC n (Val.mk e8 e9 f0 f1 f2 f3)) fun⟨⟨f4,f5,f6,f7,f8,f9⟩,g0⟩=>some (Val.mk f4 f5 f6 f7 f8 f9,g0) else bif b==([116,101,120,116]:SS) then bif c then some (Val.mk 0 false 0 ([]:SS) ([]:List Val) ([]:List SS),0) else bnd (idx a 0) fun⟨d5,d6,d7,d8,d9,e0⟩=>bnd (bS n (Val.mk d5 d6 d7 d8 d9 e0)) fun⟨⟨e1,e2,e3,e4,e5,e6⟩,e7⟩=>some (Val.mk e1 e2 e3 e4 e5 e6,e7) else some (Val.mk 0 false 0 ([]:SS) ([]:List Val) ([]:List SS),2)
abbrev BR (p:PV):List (SS×PV):=(ig ([116,101,120,116]:SS) (PV.fn 265) (ig ([108,97,115,116]:SS) (PV.fn 264) (ig ([104,101,97,100]:SS) (PV.fn 262) (ig ([116,121,112,101]:SS) (PV.clo 261 [PV.hp [p]]) (ig ([108,97,98,101,108,115]:SS) (PV.clo 259 [PV.hp [p]]) (ig ([107,101,121,115]:SS) (PV.bfn 258 [p]) (ig ([97,98,115]:SS) (PV.fn 256) (ig ([115,105,122,101]:SS) (PV.fn 255) ([]:List (SS×PV))))))))))
abbrev cPl (a:List SS) (c:List Val) (d:List Node) (e:List Edge) (f:Int) (g:Bool) (i:Int) (j:SS) (k:List Val) (b:List SS):PV:=PV.hp [PV.sl (qv a),PV.sl (Val.rows c),PV.sl (Node.rows d),PV.sl (Edge.rows e),PV.int .i64 f,PV.bool g,PV.int .i64 i,PV.str j,PV.sl (Val.rows k),PV.sl (qv b)]
theorem XL (n:Nat):∀(o:xu) (b:SS) (p:List Val) (r:Val×Int),uX n o b p=some r->qh TP 220 [(PV.hp (gA.cells o)),PV.str b,PV.sl (Val.rows p)] (rH r):=by
 intro o b p r h;obtain⟨⟨c,e⟩,⟨f,g⟩,⟨i,j,k,l,m,d⟩⟩:=o;unfold uX at h;refine zN Tryz.call220 Tryz.func220 [10000003,1000000] ?_;conv=>whnf
 replace h:=qQ h;obtain⟨_,G,h⟩:=h;refine⟨_,(zP n _ _ G),?_⟩;conv=>whnf
 refine⟨id,id,id,?_⟩;conv=>whnf
 refine⟨fun a=>?_,fun a=>?_⟩
 ·replace h:=uw h a
  conv=>whnf
  replace h:=qQ h;obtain⟨_,D,h⟩:=h;refine⟨_,(zZ n _ _ D),?_⟩;conv=>whnf
  replace h:=qQ h;obtain⟨⟨_,_,_,_,_,_⟩,q,h⟩:=h;refine⟨_,Codec.at_ zx q,?_⟩;obtain rfl:=sj h;conv=>whnf
  try exact fin
 replace h:=uv h a;conv=>whnf
 refine⟨id,id,id,?_⟩;conv=>whnf
 refine⟨fun a=>?_,fun a=>?_⟩
 ·replace h:=uw h a
  conv=>whnf
  refine⟨fun a=>?_,fun a=>?_⟩
  ·replace h:=uw h a
   obtain rfl:=sj h;conv=>whnf
   try exact fin
  replace h:=uv h a;conv=>whnf
  replace h:=qQ h;obtain⟨⟨_,_,_,_,_,_⟩,J,h⟩:=h;refine⟨_,Codec.at_ zx J,?_⟩;conv=>whnf
  replace h:=qQ h;obtain⟨⟨_,_,_,_,_,_⟩,I,h⟩:=h;refine⟨_,Codec.at_ zx I,?_⟩;conv=>whnf
  replace h:=qQ h;obtain⟨⟨⟨_,_,_,_,_,_⟩,_⟩,H,h⟩:=h;refine⟨_,(XZ n _ _ _ H),?_⟩;obtain rfl:=sj h;conv=>whnf
  try exact fin
 replace h:=uv h a;conv=>whnf
 refine⟨fun a=>?_,fun a=>?_⟩
 ·replace h:=uw h a
  obtain rfl:=sj h;conv=>whnf
  try exact fin
 replace h:=uv h a;conv=>whnf
 refine⟨_,rC fG (fun x=>x) ([115,105,122,101]:SS) (PV.fn 255) ([]:List (SS×PV)),?_⟩;conv=>whnf
 refine⟨_,rC fG (fun x=>x) _ _ _,?_⟩;conv=>whnf
 refine⟨_,rC fG (fun x=>x) _ _ _,?_⟩;conv=>whnf
 refine⟨_,rC fG (fun x=>x) _ _ _,?_⟩;conv=>whnf
 refine⟨_,rC fG (fun x=>x) _ _ _,?_⟩;conv=>whnf
 refine⟨_,rC fG (fun x=>x) _ _ _,?_⟩;conv=>whnf
 refine⟨_,rC fG (fun x=>x) _ _ _,?_⟩;conv=>whnf
 refine⟨_,rC fG (fun x=>x) _ _ _,?_⟩;by_cases HK0:(b==([115,105,122,101]:SS))=true
 ·replace h:=uw h HK0
  obtain rfl:b=([115,105,122,101]:SS):=by simpa using HK0
  conv=>whnf
  refine⟨PV.fn 255,_,⟨Uj fG (fun x=>x) (BR (cPl c e f g i j k l m d)) ([115,105,122,101]:SS) PV.nilfn,Uk fG (fun x=>x) (BR (cPl c e f g i j k l m d)) ([115,105,122,101]:SS)⟩,?_⟩;conv=>whnf
  refine⟨fun hf=>absurd hf (by first|decide|simp),fun _=>?_⟩;conv=>whnf
  refine⟨fun a=>?_,fun a=>?_⟩
  ·replace h:=uw h a
   obtain rfl:=sj h;conv=>whnf
   try exact fin
  replace h:=uv h a;conv=>whnf
  replace h:=qQ h;obtain⟨⟨_,_,_,_,_,_⟩,F,h⟩:=h;refine⟨_,Codec.at_ zx F,?_⟩;conv=>whnf
  replace h:=qQ h;obtain⟨⟨⟨_,_,_,_,_,_⟩,_⟩,E,h⟩:=h;refine⟨_,(XY n _ _ E),?_⟩;obtain rfl:=sj h;conv=>whnf
  try exact fin
 replace h:=uv h (by simpa using HK0);by_cases HK1:(b==([97,98,115]:SS))=true
 ·replace h:=uw h HK1
  obtain rfl:b=([97,98,115]:SS):=by simpa using HK1
  conv=>whnf
  refine⟨PV.fn 256,_,⟨Uj fG (fun x=>x) (BR (cPl c e f g i j k l m d)) ([97,98,115]:SS) PV.nilfn,Uk fG (fun x=>x) (BR (cPl c e f g i j k l m d)) ([97,98,115]:SS)⟩,?_⟩;conv=>whnf
  refine⟨fun hf=>absurd hf (by first|decide|simp),fun _=>?_⟩;conv=>whnf
  refine⟨fun a=>?_,fun a=>?_⟩
  ·replace h:=uw h a
   obtain rfl:=sj h;conv=>whnf
   try exact fin
  replace h:=uv h a;conv=>whnf
  replace h:=qQ h;obtain⟨⟨_,_,_,_,_,_⟩,C,h⟩:=h;refine⟨_,Codec.at_ zx C,?_⟩;conv=>whnf
  replace h:=qQ h;obtain⟨⟨⟨_,_,_,_,_,_⟩,_⟩,B,h⟩:=h;refine⟨_,(mw n _ _ B),?_⟩;obtain rfl:=sj h;conv=>whnf
  try exact fin
 replace h:=uv h (by simpa using HK1);by_cases HK2:(b==([107,101,121,115]:SS))=true
 ·replace h:=uw h HK2
  obtain rfl:b=([107,101,121,115]:SS):=by simpa using HK2
  conv=>whnf
  refine⟨PV.bfn 258 [cPl c e f g i j k l m d],_,⟨Uj fG (fun x=>x) (BR (cPl c e f g i j k l m d)) ([107,101,121,115]:SS) PV.nilfn,Uk fG (fun x=>x) (BR (cPl c e f g i j k l m d)) ([107,101,121,115]:SS)⟩,?_⟩;conv=>whnf
  refine⟨fun hf=>absurd hf (by first|decide|simp),fun _=>?_⟩;conv=>whnf
  refine⟨fun a=>?_,fun a=>?_⟩
  ·replace h:=uw h a
   obtain rfl:=sj h;conv=>whnf
   try exact fin
  replace h:=uv h a;conv=>whnf
  replace h:=qQ h;obtain⟨⟨_,_,_,_,_,_⟩,A,h⟩:=h;refine⟨_,Codec.at_ zx A,?_⟩;conv=>whnf
  replace h:=qQ h;obtain⟨⟨⟨_,_,_,_,_,_⟩,_⟩,z,h⟩:=h;refine⟨_,(re n _ _ _ z),?_⟩;obtain rfl:=sj h;conv=>whnf
  try exact fin
 replace h:=uv h (by simpa using HK2);by_cases HK3:(b==([108,97,98,101,108,115]:SS))=true
 ·replace h:=uw h HK3
  obtain rfl:b=([108,97,98,101,108,115]:SS):=by simpa using HK3
  conv=>whnf
  refine⟨PV.clo 259 [PV.hp [cPl c e f g i j k l m d]],_,⟨Uj fG (fun x=>x) (BR (cPl c e f g i j k l m d)) ([108,97,98,101,108,115]:SS) PV.nilfn,Uk fG (fun x=>x) (BR (cPl c e f g i j k l m d)) ([108,97,98,101,108,115]:SS)⟩,?_⟩;conv=>whnf
  refine⟨fun hf=>absurd hf (by first|decide|simp),fun _=>?_⟩;conv=>whnf
  refine⟨fun a=>?_,fun a=>?_⟩
  ·replace h:=uw h a
   obtain rfl:=sj h;conv=>whnf
   try exact fin
  replace h:=uv h a;conv=>whnf
  replace h:=qQ h;obtain⟨⟨_,_,_,_,_,_⟩,y,h⟩:=h;refine⟨_,Codec.at_ zx y,?_⟩;conv=>whnf
  replace h:=qQ h;obtain⟨⟨⟨_,_,_,_,_,_⟩,_⟩,w,h⟩:=h;refine⟨_,(my n _ _ _ w),?_⟩;obtain rfl:=sj h;conv=>whnf
  try exact fin
 replace h:=uv h (by simpa using HK3);by_cases HK4:(b==([116,121,112,101]:SS))=true
 ·replace h:=uw h HK4
  obtain rfl:b=([116,121,112,101]:SS):=by simpa using HK4
  conv=>whnf
  refine⟨PV.clo 261 [PV.hp [cPl c e f g i j k l m d]],_,⟨Uj fG (fun x=>x) (BR (cPl c e f g i j k l m d)) ([116,121,112,101]:SS) PV.nilfn,Uk fG (fun x=>x) (BR (cPl c e f g i j k l m d)) ([116,121,112,101]:SS)⟩,?_⟩;conv=>whnf
  refine⟨fun hf=>absurd hf (by first|decide|simp),fun _=>?_⟩;conv=>whnf
  refine⟨fun a=>?_,fun a=>?_⟩
  ·replace h:=uw h a
   obtain rfl:=sj h;conv=>whnf
   try exact fin
  replace h:=uv h a;conv=>whnf
  replace h:=qQ h;obtain⟨⟨_,_,_,_,_,_⟩,v,h⟩:=h;refine⟨_,Codec.at_ zx v,?_⟩;conv=>whnf
  replace h:=qQ h;obtain⟨⟨⟨_,_,_,_,_,_⟩,_⟩,u,h⟩:=h;refine⟨_,(mz n _ _ _ u),?_⟩;obtain rfl:=sj h;conv=>whnf
  try exact fin
 replace h:=uv h (by simpa using HK4);by_cases HK5:(b==([104,101,97,100]:SS))=true
 ·replace h:=uw h HK5
  obtain rfl:b=([104,101,97,100]:SS):=by simpa using HK5
  conv=>whnf
  refine⟨PV.fn 262,_,⟨Uj fG (fun x=>x) (BR (cPl c e f g i j k l m d)) ([104,101,97,100]:SS) PV.nilfn,Uk fG (fun x=>x) (BR (cPl c e f g i j k l m d)) ([104,101,97,100]:SS)⟩,?_⟩;conv=>whnf
  refine⟨fun hf=>absurd hf (by first|decide|simp),fun _=>?_⟩;conv=>whnf
  refine⟨fun a=>?_,fun a=>?_⟩
  ·replace h:=uw h a
   obtain rfl:=sj h;conv=>whnf
   try exact fin
  replace h:=uv h a;conv=>whnf
  replace h:=qQ h;obtain⟨⟨_,_,_,_,_,_⟩,t,h⟩:=h;refine⟨_,Codec.at_ zx t,?_⟩;conv=>whnf
  replace h:=qQ h;obtain⟨⟨⟨_,_,_,_,_,_⟩,_⟩,s,h⟩:=h;refine⟨_,(mA n _ _ s),?_⟩;obtain rfl:=sj h;conv=>whnf
  try exact fin
 replace h:=uv h (by simpa using HK5);by_cases HK6:(b==([108,97,115,116]:SS))=true
 ·replace h:=uw h HK6
  obtain rfl:b=([108,97,115,116]:SS):=by simpa using HK6
  conv=>whnf
  refine⟨PV.fn 264,_,⟨Uj fG (fun x=>x) (BR (cPl c e f g i j k l m d)) ([108,97,115,116]:SS) PV.nilfn,Uk fG (fun x=>x) (BR (cPl c e f g i j k l m d)) ([108,97,115,116]:SS)⟩,?_⟩;conv=>whnf
  refine⟨fun hf=>absurd hf (by first|decide|simp),fun _=>?_⟩;conv=>whnf
  refine⟨fun a=>?_,fun a=>?_⟩
  ·replace h:=uw h a
   obtain rfl:=sj h;conv=>whnf
   try exact fin
  replace h:=uv h a;conv=>whnf
  replace h:=qQ h;obtain⟨⟨_,_,_,_,_,_⟩,N,h⟩:=h;refine⟨_,Codec.at_ zx N,?_⟩;conv=>whnf
  replace h:=qQ h;obtain⟨⟨⟨_,_,_,_,_,_⟩,_⟩,M,h⟩:=h;refine⟨_,(mB n _ _ M),?_⟩;obtain rfl:=sj h;conv=>whnf
  try exact fin
 replace h:=uv h (by simpa using HK6);by_cases HK7:(b==([116,101,120,116]:SS))=true
 ·replace h:=uw h HK7
  obtain rfl:b=([116,101,120,116]:SS):=by simpa using HK7
  conv=>whnf
  refine⟨PV.fn 265,_,⟨Uj fG (fun x=>x) (BR (cPl c e f g i j k l m d)) ([116,101,120,116]:SS) PV.nilfn,Uk fG (fun x=>x) (BR (cPl c e f g i j k l m d)) ([116,101,120,116]:SS)⟩,?_⟩;conv=>whnf
  refine⟨fun hf=>absurd hf (by first|decide|simp),fun _=>?_⟩;conv=>whnf
  refine⟨fun a=>?_,fun a=>?_⟩
  ·replace h:=uw h a
   obtain rfl:=sj h;conv=>whnf
   try exact fin
  replace h:=uv h a;conv=>whnf
  replace h:=qQ h;obtain⟨⟨_,_,_,_,_,_⟩,L,h⟩:=h;refine⟨_,Codec.at_ zx L,?_⟩;conv=>whnf
  replace h:=qQ h;obtain⟨⟨⟨_,_,_,_,_,_⟩,_⟩,K,h⟩:=h;refine⟨_,(ZR n _ _ K),?_⟩;obtain rfl:=sj h;conv=>whnf
  try exact fin
 replace h:=uv h (by simpa using HK7);have hq0:(b==([115,105,122,101]:SS))=false:=Bool.eq_false_iff.2 HK0;have hq1:(b==([97,98,115]:SS))=false:=Bool.eq_false_iff.2 HK1;have hq2:(b==([107,101,121,115]:SS))=false:=Bool.eq_false_iff.2 HK2;have hq3:(b==([108,97,98,101,108,115]:SS))=false:=Bool.eq_false_iff.2 HK3;have hq4:(b==([116,121,112,101]:SS))=false:=Bool.eq_false_iff.2 HK4;have hq5:(b==([104,101,97,100]:SS))=false:=Bool.eq_false_iff.2 HK5;have hq6:(b==([108,97,115,116]:SS))=false:=Bool.eq_false_iff.2 HK6;have hq7:(b==([116,101,120,116]:SS))=false:=Bool.eq_false_iff.2 HK7;have hz:ep (BR (cPl c e f g i j k l m d)) b PV.nilfn=PV.nilfn:=by rw[show(BR (cPl c e f g i j k l m d))=[(([115,105,122,101]:SS),PV.fn 255),(([97,98,115]:SS),PV.fn 256),(([107,101,121,115]:SS),PV.bfn 258 [cPl c e f g i j k l m d]),(([108,97,98,101,108,115]:SS),PV.clo 259 [PV.hp [cPl c e f g i j k l m d]]),(([116,121,112,101]:SS),PV.clo 261 [PV.hp [cPl c e f g i j k l m d]]),(([104,101,97,100]:SS),PV.fn 262),(([108,97,115,116]:SS),PV.fn 264),(([116,101,120,116]:SS),PV.fn 265)]from rfl]; simp only[ep,oR,hq0,hq1,hq2,hq3,hq4,hq5,hq6,hq7,kcf,Option.getD_none]
 conv=>whnf
 refine⟨PV.nilfn,_,⟨Eq.trans (Uj fG (fun x=>x) (BR (cPl c e f g i j k l m d)) b PV.nilfn) hz,Uk fG (fun x=>x) (BR (cPl c e f g i j k l m d)) b⟩,?_⟩;conv=>whnf
 refine⟨fun _=>?_,fun hf=>absurd hf (by first|decide|simp)⟩;obtain rfl:=sj h;conv=>whnf
 try exact fin
instance (n:Nat) (a:xu) (b:SS) (c:List Val):CC TP (uX n a b c) 220 [(PV.hp (gA.cells a)),PV.str b,PV.sl (Val.rows c)] rH:=⟨XL n a b c⟩
end W
end
section
set_option maxRecDepth 100000
set_option maxHeartbeats 20000000
open Go Go.Proofs Ax
attribute [local irreducible] zh rI uh
namespace W
def dp (n:Nat) (a:List Val) (b:Int):Unit->Option (Val×Int):=fun _=>bnd (idx a b) fun⟨c,d,e,f,g,i⟩=>some (Val.mk c d e f g i,0)
def dq (n:Nat) (a:Int) (b:Bool) (c:Int) (d:SS) (e:List Val) (f:List SS):Unit->Option (Val×Int):=fun _=>some (Val.mk a b c d e f,0)
def dr (n:Nat) (a:Int) (b:Bool) (c:Int) (d:SS) (e:List Val) (f:List SS):Unit->Option (Val×Int):=fun _=>some (Val.mk a b c d e f,0)
def uD (n:Nat) (a:List Val) (b:Int) (c:SS) (d:List SS) (R:List Val) (S:List Node) (T:List Edge) (U:Int) (V:Bool) (W:Int) (X:SS) (Y:List Val) (e:List SS):Bool->Option (Val×Int):=fun f=>bif f then bnd (idx a 0) fun⟨g,_,_,_,_,_⟩=>bnd (bU n ((g==0)==(b==11))) fun i=>bnd (zT n i) fun⟨j,k,l,m,o,p⟩=>some (Val.mk j k l m o p,0) else bif b==10 then bnd (idx a 0) fun⟨q,s,t,u,v,w⟩=>bnd (idx a 1) fun⟨x,y,z,A,B,C⟩=>bnd (so n c (Val.mk q s t u v w) (Val.mk x y z A B C)) fun⟨⟨D,E,F,G,H,I⟩,J⟩=>some (Val.mk D E F G H I,J) else bnd (uX n (xu.mk (Env.mk d R) (Graph.mk S T) (Val.mk U V W X Y e)) c a) fun⟨⟨K,L,M,N,O,P⟩,Q⟩=>some (Val.mk K L M N O P,Q)
def fh (n:Nat) (a:Int) (b:List Val) (a0 c:List SS) (f:List Val) (g:List Node) (i:List Edge) (j:Int) (k:Bool) (l:Int) (m:SS) (o:List Val) (d:List SS) (e:SS):Unit->Option (Val×Int):=fun _=>bif a==5 then bnd (gW n b) fun⟨a1,a2,a3,a4,a5,a6⟩=>bnd (gX n (Val.mk a1 a2 a3 a4 a5 a6)) fun⟨⟨a7,a8,a9,b0,b1,b2⟩,b3⟩=>some (Val.mk a7 a8 a9 b0 b1 b2,b3) else bif a==6 then bnd (bG n a0 b) fun⟨⟨b4,b5,b6,b7,b8,b9⟩,c0⟩=>bif c0 != 0 then some (Val.mk 0 false 0 ([]:SS) ([]:List Val) ([]:List SS),8) else dr n b4 b5 b6 b7 b8 b9 () else bif a==4 then bnd (idx b 0) fun⟨c1,c2,c3,c4,c5,c6⟩=>bnd (fo n (xu.mk (Env.mk c f) (Graph.mk g i) (Val.mk j k l m o d)) (Val.mk c1 c2 c3 c4 c5 c6) e) fun⟨⟨c7,c8,c9,d0,d1,d2⟩,d3⟩=>some (Val.mk c7 c8 c9 d0 d1 d2,d3) else bif a==15 then bnd (idx b 0) fun⟨d4,d5,d6,d7,d8,d9⟩=>bnd (fW n (xu.mk (Env.mk c f) (Graph.mk g i) (Val.mk j k l m o d)) (Val.mk d4 d5 d6 d7 d8 d9) e) fun⟨⟨e0,e1,e2,e3,e4,e5⟩,e6⟩=>some (Val.mk e0 e1 e2 e3 e4 e5,e6) else bif a==7 then bnd (idx b 0) fun⟨e7,e8,e9,f0,f1,f2⟩=>bnd (idx b 1) fun⟨f3,f4,f5,f6,f7,f8⟩=>bnd (ZQ n (Val.mk e7 e8 e9 f0 f1 f2) (Val.mk f3 f4 f5 f6 f7 f8)) fun⟨⟨f9,g0,g1,g2,g3,p⟩,q⟩=>some (Val.mk f9 g0 g1 g2 g3 p,q) else bif a==8 then bnd (zF n 0) fun⟨s,t,u,v,w,x⟩=>bnd (idx b 0) fun⟨y,z,A,B,C,D⟩=>bnd (xF n (Val.mk s t u v w x) (Val.mk y z A B C D)) fun⟨⟨E,F,G,H,I,J⟩,K⟩=>some (Val.mk E F G H I J,K) else bif a==9 then bnd (idx b 0) fun⟨L,M,N,O,P,Q⟩=>bnd (ub n (Val.mk L M N O P Q)) fun⟨R,S⟩=>bnd (vS n R) fun T=>bnd (zT n T) fun⟨U,V,W,X,Y,Z⟩=>some (Val.mk U V W X Y Z,S) else bif a==11 then uD n b a e c f g i j k l m o d (a==11) else uD n b a e c f g i j k l m o d (a==12)
abbrev qcx:Type:=xu->qf->Option (Val×Int)
abbrev qes:Type:=xu->(List qf)->Option (List Val×Int)
def gG (n:Nat) (g178:qcx) (g205:qes) (q:xu) (s:qf):Option (Val×Int):= match q,s with | ⟨⟨c,b⟩,⟨m,p⟩,⟨g,i,j,k,l,d⟩⟩,⟨a,e,⟨t,u,v,w,x,y⟩,z,A⟩=>bif a==1 then some (Val.mk t u v w x y,0) else bif a==2 then bnd (zg n c e) fun f=>bif bif f<0 then true else f≥((Val.rows b).length:Int) then some (Val.mk 0 false 0 ([]:SS) ([]:List Val) ([]:List SS),2) else dp n b f () else bif a==3 then bnd (cO n (Val.mk g i j k l d) e) fun⟨⟨B,C,D,E,F,G⟩,H⟩=>bif !H then some (Val.mk 0 false 0 ([]:SS) ([]:List Val) ([]:List SS),2) else dq n B C D E F G () else bif a==14 then some (Val.mk 0 false 0 ([]:SS) ([]:List Val) ([]:List SS),2) else bnd (g205 (xu.mk (Env.mk c b) (Graph.mk m p) (Val.mk g i j k l d)) A) fun⟨I,o⟩=>bif o != 0 then some (Val.mk 0 false 0 ([]:SS) ([]:List Val) ([]:List SS),o) else fh n a I z c b m p g i j k l d e ()
def bF (n:Nat) (c:List qf) (g178:qcx) (m:List SS) (w:List Val) (B:List Node) (C:List Edge) (D:Int) (E:Bool) (F:Int) (G:SS) (H:List Val) (o:List SS):LK (List Val×Int) (List Val×Int):=fun l (a,b)=>bif b<((qf.rows c).length:Int) then bnd (idx c b) fun⟨p,q,⟨s,t,u,v,x,y⟩,z,A⟩=>bnd (g178 (xu.mk (Env.mk m w) (Graph.mk B C) (Val.mk D E F G H o)) (qf.mk p q (Val.mk s t u v x y) z A)) fun⟨⟨d,e,f,g,i,j⟩,k⟩=>bif k != 0 then some (([]:List Val),k) else chk ((Val.rows (a++[Val.mk d e f g i j])).length * 88<=140737488355328) (l (a++[Val.mk d e f g i j],kwr .i64 (b+1))) else some (a,0)
def fi (n:Nat) (g178:qcx) (g205:qes) (a:xu) (d:List qf):Option (List Val×Int):= match a with | ⟨⟨b,e⟩,⟨f,g⟩,⟨i,j,k,l,m,c⟩⟩=>qy (bF n d g178 b e f g i j k l m c) n (([]:List _),0)
instance (n a b):LJ (dp n a b) [0,6] (fun _=>[(4,.ptr 0 0)]) [1]:=⟨⟩
instance (n a b c d e f):LJ (dq n a b c d e f) [] (fun _=>[(4,.ptr 0 0),(7,.ptr 1 0)]) [1,2]:=⟨⟩
instance (n c i e a f g j k l m o p b d):LJ (fh n c i e a f g j k l m o p b d) [0,3,4,9] (fun _=>[]) [0,1]:=⟨⟩
instance (n a b c d e f):LJ (dr n a b c d e f) [] (fun _=>[(4,.ptr 0 0),(11,.ptr 1 0)]) [1,2]:=⟨⟩
instance (n i c d a f g j k l m o p b):LJ (uD n i c d a f g j k l m o p b) [0,3,4,9,83] (fun e=>[(159,pB e)]) [0,1]:=⟨⟩
theorem Zv (n:Nat) (g178:qcx) (g205:qes) (g178_ok:∀(a:xu) (b:qf) (r:Val×Int),g178 a b=some r->qh TP 178 [(PV.hp (gA.cells a)),PV.agg (uj.cells b)] (rH r)) (g205_ok:∀(a:xu) (c:List qf) (r:List Val×Int),g205 a c=some r->qh TP 205 [(PV.hp (gA.cells a)),PV.sl (qf.rows c)] (qcl r)):∀(a:xu) (b:qf) (r:Val×Int),gG n g178 g205 a b=some r->qh TP 178 [(PV.hp (gA.cells a)),PV.agg (uj.cells b)] (rH r):=by
 have:=fun a b=>CC.mk (g178_ok a b);have:=fun a c=>CC.mk (g205_ok a c);intro a b r h;obtain⟨⟨_,_⟩,⟨_,_⟩,⟨_,_,_,_,_,_⟩⟩:=a;obtain⟨c,_,⟨_,_,_,_,_,_⟩,_,_⟩:=b;unfold gG at h;exact zN Tryz.call178 Tryz.func178 [1000001,40000010,1000000] au
instance (n e g178 c f g i j k l m o d):LL (bF n e g178 c f g i j k l m o d) [0,11,12] (fun(a,b)=>[(6,.tsl 0 (Val.rows a)),(13,pI b)]) [0] (fun(a,b)=>[(0,.tail 35 6 (Val.rows a).length)]):=⟨⟩
theorem XH (n:Nat) (g178:qcx) (g205:qes) (g178_ok:∀(a:xu) (c:qf) (r:Val×Int),g178 a c=some r->qh TP 178 [(PV.hp (gA.cells a)),PV.agg (uj.cells c)] (rH r)) (g205_ok:∀(a:xu) (b:List qf) (r:List Val×Int),g205 a b=some r->qh TP 205 [(PV.hp (gA.cells a)),PV.sl (qf.rows b)] (qcl r)):∀(a:xu) (b:List qf) (r:List Val×Int),fi n g178 g205 a b=some r->qh TP 205 [(PV.hp (gA.cells a)),PV.sl (qf.rows b)] (qcl r):=by
 have:=fun a c=>CC.mk (g178_ok a c);have:=fun a b=>CC.mk (g205_ok a b);intro a b r h;obtain⟨⟨_,_⟩,⟨_,_⟩,⟨_,_,_,_,_,_⟩⟩:=a;unfold fi at h;exact zN Tryz.call205 Tryz.func205 [1000000] au
mutual
def xb:Nat->xu->qf->Option (Val×Int)
 | 0=>fun _ _=>none
 | n+1=>gG n (xb n) (xA n)

def xA:Nat->xu->(List qf)->Option (List Val×Int)
 | 0=>fun _ _=>none
 | n+1=>fi n (xb n) (xA n)

end
theorem nY (n:Nat):(∀(a:xu) (b:qf) (r:Val×Int),xb n a b=some r->qh TP 178 [(PV.hp (gA.cells a)),PV.agg (uj.cells b)] (rH r))/\(∀(a:xu) (c:List qf) (r:List Val×Int),xA n a c=some r->qh TP 205 [(PV.hp (gA.cells a)),PV.sl (qf.rows c)] (qcl r)):=by
 induction n with
 | zero=>exact⟨(by intros; rename_i h; cases h),(by intros; rename_i h; cases h)⟩
 | succ n ih=>
  obtain⟨hg178,hg205⟩:=ih;exact⟨Zv n (xb n) (xA n) hg178 hg205,XH n (xb n) (xA n) hg178 hg205⟩
theorem pZ (n:Nat):∀(a:xu) (b:qf) (r:Val×Int),xb n a b=some r->qh TP 178 [(PV.hp (gA.cells a)),PV.agg (uj.cells b)] (rH r):=(nY n).1
instance (n:Nat) (a:xu) (b:qf):CC TP (xb n a b) 178 [(PV.hp (gA.cells a)),PV.agg (uj.cells b)] rH:=⟨pZ n a b⟩
theorem Vk (n:Nat):∀(a:xu) (b:List qf) (r:List Val×Int),xA n a b=some r->qh TP 205 [(PV.hp (gA.cells a)),PV.sl (qf.rows b)] (qcl r):=(nY n).2
instance (n:Nat) (a:xu) (b:List qf):CC TP (xA n a b) 205 [(PV.hp (gA.cells a)),PV.sl (qf.rows b)] qcl:=⟨Vk n a b⟩
def np (n:Nat) (b:qf) (c:Env) (d:Graph) (e:Val):Option (Val×Int):= match b,c,d,e with | ⟨f,t,⟨D,I,J,K,L,M⟩,N,g⟩,⟨i,j⟩,⟨k,l⟩,⟨m,o,p,q,s,u⟩=>bnd (xb n (xu.mk (Env.mk i j) (Graph.mk k l) (Val.mk m o p q s u)) (qf.mk f t (Val.mk D I J K L M) N g)) fun⟨⟨v,w,x,y,z,A⟩,a⟩=>bif a != 0 then some (Val.mk 0 false 0 ([]:List UInt8) ([]:List Val) ([]:List (List UInt8)),a) else bnd (zG n (Val.mk v w x y z A)) fun⟨B,C,E,F,G,H⟩=>some (Val.mk B C E F G H,0)
theorem Bo (n:Nat):∀(a:qf) (b:Env) (c:Graph) (d:Val) (r:Val×Int),np n a b c d=some r->qh TP 153 [PV.agg (uj.cells a),PV.agg (Nh.cells b),PV.agg (uI.cells c),PV.agg (zx.cells d)] (rH r):=by
 intro a b c d r h;obtain⟨_,_,⟨_,_,_,_,_,_⟩,_,_⟩:=a;obtain⟨e,g⟩:=b;obtain⟨i,j⟩:=c;obtain⟨k,l,m,o,q,s⟩:=d;unfold np at h;refine zN Tryz.call153 Tryz.func153 [178,1000000] ?_;conv=>whnf
 refine zh.pubBox (P:=Tryz.prog) (f:=178) 5 (t:=240) (cells:=[pT e,pV g,.p (.sl (Node.rows i)),.p (.sl (Edge.rows j)),pI k,pB l,pI m,pS o,pV q,pT s]) (row:=[PV.sl (qv e),PV.sl (Val.rows g),PV.sl (Node.rows i),PV.sl (Edge.rows j),PV.int .i64 k,PV.bool l,PV.int .i64 m,PV.str o,PV.sl (Val.rows q),PV.sl (qv s)]) ?_ ?_ ?_ ?_;rfl;rfl;rfl;refine zh.ofF ?_;conv=>whnf
 refine bq h fun⟨⟨_,_,_,_,_,_⟩,_⟩ v h=>⟨_,(pZ n _ _ _ v),?_⟩;conv=>whnf
 apply ifc h<;>intro _ h
 ·obtain rfl:=sj h
  conv=>whnf
  try exact fin
 conv=>whnf
 refine bq h fun⟨_,_,_,_,_,_⟩ u h=>⟨_,(fu n _ _ u),?_⟩;obtain rfl:=sj h;conv=>whnf
 try exact fin
instance (n:Nat) (a:qf) (b:Env) (c:Graph) (d:Val):CC TP (np n a b c d) 153 [PV.agg (uj.cells a),PV.agg (Nh.cells b),PV.agg (uI.cells c),PV.agg (zx.cells d)] rH:=⟨Bo n a b c d⟩
abbrev DM:Type:=Val->Option (Bool)
def dz (n:Nat) (g154:DM) (g160z179:(List Val)->Option (Bool)) (g196z179:(List Val)->Option (Int)) (g179:DM) (b:Val):Option (Bool):= match b with | ⟨a,_,_,_,c,_⟩=>bnd (qz (a<6) (g160z179 c)) fun d=>some (bif a<6 then !d else false)
def qG (n:Nat) (g154:DM) (g160z179:(List Val)->Option (Bool)) (g196z179:(List Val)->Option (Int)) (g179:DM) (a:List Val):Option (Bool):= bnd (g196z179 a) fun b=>some (b≥0)
def zA (n:Nat) (b:List Val) (g179:DM):LK (Int) (Int):=fun c a=>bif a<((Val.rows b).length:Int) then bnd (idx b a) fun⟨d,e,f,g,i,j⟩=>bnd (g179 (Val.mk d e f g i j)) fun k=>bif k then some a else c (kwr .i64 (a+1)) else some (-1)
def qL (n:Nat) (g154:DM) (g160z179:(List Val)->Option (Bool)) (g196z179:(List Val)->Option (Int)) (g179:DM) (a:List Val):Option (Int):= qy (zA n a g179) n 0
def fj (n:Nat) (g154:DM) (g160z179:(List Val)->Option (Bool)) (g196z179:(List Val)->Option (Int)) (g179:DM) (a:Val):Option (Bool):= match a with | ⟨b,c,d,e,f,g⟩=>bnd (g154 (Val.mk b c d e f g)) fun i=>some (!i)
abbrev qem (g154:DM):Prop:=∀(a:Val) (r:Bool),g154 a=some r->qh TP 154 [PV.agg (zx.cells a)] (RA0 r)
abbrev qen (g179:DM):Prop:=∀(a:Val) (r:Bool),g179 a=some r->qh TP 179 [PV.agg (zx.cells a)] (RA0 r)
theorem UD (n:Nat) (g154:DM) (g160z179:(List Val)->Option (Bool)) (g196z179:(List Val)->Option (Int)) (g179:DM) (g154_ok:qem g154) (g160_179_ok:∀(a:List Val) (r:Bool),g160z179 a=some r->qh TP 160 [PV.sl (Val.rows a),PV.fn 179] (RA0 r)) (g196_179_ok:∀(a:List Val) (r:Int),g196z179 a=some r->qh TP 196 [PV.sl (Val.rows a),PV.fn 179] (RA2 r)) (g179_ok:qen g179):∀(b:Val) (r:Bool),dz n g154 g160z179 g196z179 g179 b=some r->qh TP 154 [PV.agg (zx.cells b)] (RA0 r):=by
 have:=fun b=>CC.mk (g154_ok b);have:=fun a=>CC.mk (g160_179_ok a);have:=fun a=>CC.mk (g196_179_ok a);have:=fun b=>CC.mk (g179_ok b);intro b r h;obtain⟨a,_,_,_,_,_⟩:=b;unfold dz at h;exact zN Tryz.call154 Tryz.func154 [1000000] au
theorem vI (n:Nat) (g154:DM) (g160z179:(List Val)->Option (Bool)) (g196z179:(List Val)->Option (Int)) (g179:DM) (g154_ok:qem g154) (g160_179_ok:∀(a:List Val) (r:Bool),g160z179 a=some r->qh TP 160 [PV.sl (Val.rows a),PV.fn 179] (RA0 r)) (g196_179_ok:∀(a:List Val) (r:Int),g196z179 a=some r->qh TP 196 [PV.sl (Val.rows a),PV.fn 179] (RA2 r)) (g179_ok:qen g179):∀(a:List Val) (r:Bool),qG n g154 g160z179 g196z179 g179 a=some r->qh TP 160 [PV.sl (Val.rows a),PV.fn 179] (RA0 r):=by
 have:=fun b=>CC.mk (g154_ok b);have:=fun a=>CC.mk (g160_179_ok a);have:=fun a=>CC.mk (g196_179_ok a);have:=fun b=>CC.mk (g179_ok b);intro a r h;unfold qG at h;exact zN Tryz.call160 Tryz.func160 [1000000] au
instance (n a g179):LL (zA n a g179) [0,1,7] (fun b=>[(8,pI b)]):=⟨⟩
theorem vV (n:Nat) (g154:DM) (g160z179:(List Val)->Option (Bool)) (g196z179:(List Val)->Option (Int)) (g179:DM) (g154_ok:qem g154) (g160_179_ok:∀(a:List Val) (r:Bool),g160z179 a=some r->qh TP 160 [PV.sl (Val.rows a),PV.fn 179] (RA0 r)) (g196_179_ok:∀(a:List Val) (r:Int),g196z179 a=some r->qh TP 196 [PV.sl (Val.rows a),PV.fn 179] (RA2 r)) (g179_ok:qen g179):∀(a:List Val) (r:Int),qL n g154 g160z179 g196z179 g179 a=some r->qh TP 196 [PV.sl (Val.rows a),PV.fn 179] (RA2 r):=by
 have:=fun b=>CC.mk (g154_ok b);have:=fun a=>CC.mk (g160_179_ok a);have:=fun a=>CC.mk (g196_179_ok a);have:=fun b=>CC.mk (g179_ok b);intro a r h;unfold qL at h;exact zN Tryz.call196 Tryz.func196 [1000000] au
theorem XI (n:Nat) (g154:DM) (g160z179:(List Val)->Option (Bool)) (g196z179:(List Val)->Option (Int)) (g179:DM) (g154_ok:qem g154) (g160_179_ok:∀(a:List Val) (r:Bool),g160z179 a=some r->qh TP 160 [PV.sl (Val.rows a),PV.fn 179] (RA0 r)) (g196_179_ok:∀(a:List Val) (r:Int),g196z179 a=some r->qh TP 196 [PV.sl (Val.rows a),PV.fn 179] (RA2 r)) (g179_ok:qen g179):∀(b:Val) (r:Bool),fj n g154 g160z179 g196z179 g179 b=some r->qh TP 179 [PV.agg (zx.cells b)] (RA0 r):=by
 have:=fun b=>CC.mk (g154_ok b);have:=fun a=>CC.mk (g160_179_ok a);have:=fun a=>CC.mk (g196_179_ok a);have:=fun b=>CC.mk (g179_ok b);intro b r h;obtain⟨a,_,_,_,_,_⟩:=b;unfold fj at h;exact zN Tryz.call179 Tryz.func179 [1000000] au
mutual
def zB:Nat->Val->Option (Bool)
 | 0=>fun _=>none
 | n+1=>dz n (zB n) (qa n) (qb n) (zj n)

def qa:Nat->(List Val)->Option (Bool)
 | 0=>fun _=>none
 | n+1=>qG n (zB n) (qa n) (qb n) (zj n)

def qb:Nat->(List Val)->Option (Int)
 | 0=>fun _=>none
 | n+1=>qL n (zB n) (qa n) (qb n) (zj n)

def zj:Nat->Val->Option (Bool)
 | 0=>fun _=>none
 | n+1=>fj n (zB n) (qa n) (qb n) (zj n)

end
theorem dm (n:Nat):(∀(a:Val) (r:Bool),zB n a=some r->qh TP 154 [PV.agg (zx.cells a)] (RA0 r))/\(∀(b:List Val) (r:Bool),qa n b=some r->qh TP 160 [PV.sl (Val.rows b),PV.fn 179] (RA0 r))/\(∀(b:List Val) (r:Int),qb n b=some r->qh TP 196 [PV.sl (Val.rows b),PV.fn 179] (RA2 r))/\(∀(a:Val) (r:Bool),zj n a=some r->qh TP 179 [PV.agg (zx.cells a)] (RA0 r)):=by
 induction n with
 | zero=>exact⟨(by intros; rename_i h; cases h),(by intros; rename_i h; cases h),(by intros; rename_i h; cases h),(by intros; rename_i h; cases h)⟩
 | succ n ih=>
  obtain⟨hg154,hg160_179,hg196_179,hg179⟩:=ih;exact⟨UD n (zB n) (qa n) (qb n) (zj n) hg154 hg160_179 hg196_179 hg179,vI n (zB n) (qa n) (qb n) (zj n) hg154 hg160_179 hg196_179 hg179,vV n (zB n) (qa n) (qb n) (zj n) hg154 hg160_179 hg196_179 hg179,XI n (zB n) (qa n) (qb n) (zj n) hg154 hg160_179 hg196_179 hg179⟩
theorem GW (n:Nat):∀(a:Val) (r:Bool),zB n a=some r->qh TP 154 [PV.agg (zx.cells a)] (RA0 r):=(dm n).1
instance (n:Nat) (a:Val):CC TP (zB n a) 154 [PV.agg (zx.cells a)] RA0:=⟨GW n a⟩
theorem vK (n:Nat):∀(a:List Val) (r:Bool),qa n a=some r->qh TP 160 [PV.sl (Val.rows a),PV.fn 179] (RA0 r):=(dm n).2.1
instance (n:Nat) (a:List Val):CC TP (qa n a) 160 [PV.sl (Val.rows a),PV.fn 179] RA0:=⟨vK n a⟩
theorem ud (n:Nat):∀(a:List Val) (r:Int),qb n a=some r->qh TP 196 [PV.sl (Val.rows a),PV.fn 179] (RA2 r):=(dm n).2.2.1
instance (n:Nat) (a:List Val):CC TP (qb n a) 196 [PV.sl (Val.rows a),PV.fn 179] RA2:=⟨ud n a⟩
theorem Vl (n:Nat):∀(a:Val) (r:Bool),zj n a=some r->qh TP 179 [PV.agg (zx.cells a)] (RA0 r):=(dm n).2.2.2
instance (n:Nat) (a:Val):CC TP (zj n a) 179 [PV.agg (zx.cells a)] RA0:=⟨Vl n a⟩
end W
end
