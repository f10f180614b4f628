/- A part of the proof: contracts, printed by program. -/
import Derived.Test.YtlnipohgljbfiaaGreatB
import Derived.Test.YtlnipohgljbfiaaGreatC
import Derived.Test.YtlnipohgljbfiaaGreatE
import Derived.Test.YtlnipohgljbfiaaGreatG
set_option linter.unusedVariables false
set_option linter.unusedSimpArgs false
set_option linter.unnecessarySimpa false
set_option linter.deprecated false
set_option linter.unusedSectionVars false
set_option linter.constructorNameAsVariable false
open Go.IntKind renaming wrap->kwr,bits->kbt
open BitVec renaming ofInt->jr
section
set_option maxRecDepth 100000
set_option maxHeartbeats 4000000
open Go Go.Proofs Ax
namespace W
abbrev GD (r:Bool):PV:=PV.bool r
def gj (n:Nat) (a b:SS):Option (Bool):=
 bnd (vg n a b) fun c=>
 some c
theorem UO (n:Nat):∀ (a b:SS) (r:Bool),gj n a b=some r->qb TP 180 [PV.str a,PV.str b] (GD r):=by
 intro a b r h;unfold gj at h;refine zN Tryz.call180 Tryz.func180 [1000000] ?_;conv=>whnf
 refine bq h fun _ c h=>⟨_,(sK n _ _ _ c),?_⟩;obtain rfl:=sj h;conv=>whnf
 try exact fin
abbrev Rf (r:SS):PV:=PV.str r
def tC (n:Nat) (b:SS) (a:Nat) (c:SS) (d:SS×Nat->Option SS):Bool->Option SS:=fun m=>
 bif m then(
 bnd (u8I (kwr .u8 (((jr (kbt .u8) (224:Int) ||| jr (kbt .u8) (kwr .u8 (Int.fdiv ((qP b a:Nat):Int) (2 ^ (min (Int.toNat (12:Int)) (kbt .i32)))))).toNat:Nat):Int))) fun k=>
 bnd (u8I (kwr .u8 (((jr (kbt .u8) (128:Int) ||| jr (kbt .u8) (kwr .u8 (((jr (kbt .u8) (kwr .u8 (Int.fdiv ((qP b a:Nat):Int) (2 ^ (min (Int.toNat (6:Int)) (kbt .i32))))) &&& jr (kbt .u8) (63:Int)).toNat:Nat):Int))).toNat:Nat):Int))) fun l=>
 bnd (u8I (kwr .u8 (((jr (kbt .u8) (128:Int) ||| jr (kbt .u8) (kwr .u8 (((jr (kbt .u8) (kwr .u8 ((qP b a:Nat):Int)) &&& jr (kbt .u8) (63:Int)).toNat:Nat):Int))).toNat:Nat):Int))) fun e=>
 chk (decide ((qT ((c++[(92:UInt8)])++[k,l,e])).length * 1<=140737488355328)) (
 d (((c++[(92:UInt8)])++[k,l,e]),(bif(decide (a<b.length))then xG b a else a))))
 else(
 bif(bif(decide ((kwr .u32 ((qP b a:Nat):Int))>65535))then(decide ((kwr .u32 ((qP b a:Nat):Int))<=1114111))else false)then(
 bnd (u8I (kwr .u8 (((jr (kbt .u8) (240:Int) ||| jr (kbt .u8) (kwr .u8 (Int.fdiv ((qP b a:Nat):Int) (2 ^ (min (Int.toNat (18:Int)) (kbt .i32)))))).toNat:Nat):Int))) fun f=>
 bnd (u8I (kwr .u8 (((jr (kbt .u8) (128:Int) ||| jr (kbt .u8) (kwr .u8 (((jr (kbt .u8) (kwr .u8 (Int.fdiv ((qP b a:Nat):Int) (2 ^ (min (Int.toNat (12:Int)) (kbt .i32))))) &&& jr (kbt .u8) (63:Int)).toNat:Nat):Int))).toNat:Nat):Int))) fun g=>
 bnd (u8I (kwr .u8 (((jr (kbt .u8) (128:Int) ||| jr (kbt .u8) (kwr .u8 (((jr (kbt .u8) (kwr .u8 (Int.fdiv ((qP b a:Nat):Int) (2 ^ (min (Int.toNat (6:Int)) (kbt .i32))))) &&& jr (kbt .u8) (63:Int)).toNat:Nat):Int))).toNat:Nat):Int))) fun i=>
 bnd (u8I (kwr .u8 (((jr (kbt .u8) (128:Int) ||| jr (kbt .u8) (kwr .u8 (((jr (kbt .u8) (kwr .u8 ((qP b a:Nat):Int)) &&& jr (kbt .u8) (63:Int)).toNat:Nat):Int))).toNat:Nat):Int))) fun j=>
 chk (decide ((qT ((c++[(92:UInt8)])++[f,g,i,j])).length * 1<=140737488355328)) (
 d (((c++[(92:UInt8)])++[f,g,i,j]),(bif(decide (a<b.length))then xG b a else a))))
 else(
 chk (decide ((qT ((c++[(92:UInt8)])++[(239:UInt8),(191:UInt8),(189:UInt8)])).length * 1<=140737488355328)) (
 d (((c++[(92:UInt8)])++[(239:UInt8),(191:UInt8),(189:UInt8)]),(bif(decide (a<b.length))then xG b a else a)))))
def fP (n:Nat) (b:SS) (a:Nat) (c:SS) (d:SS×Nat->Option SS):Bool->Option SS:=fun m=>
 bif m then(
 bnd (u8I (kwr .u8 (((jr (kbt .u8) (224:Int) ||| jr (kbt .u8) (kwr .u8 (Int.fdiv ((qP b a:Nat):Int) (2 ^ (min (Int.toNat (12:Int)) (kbt .i32)))))).toNat:Nat):Int))) fun e=>
 bnd (u8I (kwr .u8 (((jr (kbt .u8) (128:Int) ||| jr (kbt .u8) (kwr .u8 (((jr (kbt .u8) (kwr .u8 (Int.fdiv ((qP b a:Nat):Int) (2 ^ (min (Int.toNat (6:Int)) (kbt .i32))))) &&& jr (kbt .u8) (63:Int)).toNat:Nat):Int))).toNat:Nat):Int))) fun f=>
 bnd (u8I (kwr .u8 (((jr (kbt .u8) (128:Int) ||| jr (kbt .u8) (kwr .u8 (((jr (kbt .u8) (kwr .u8 ((qP b a:Nat):Int)) &&& jr (kbt .u8) (63:Int)).toNat:Nat):Int))).toNat:Nat):Int))) fun g=>
 chk (decide ((qT (c++[e,f,g])).length * 1<=140737488355328)) (
 d ((c++[e,f,g]),(bif(decide (a<b.length))then xG b a else a))))
 else(
 bif(bif(decide ((kwr .u32 ((qP b a:Nat):Int))>65535))then(decide ((kwr .u32 ((qP b a:Nat):Int))<=1114111))else false)then(
 bnd (u8I (kwr .u8 (((jr (kbt .u8) (240:Int) ||| jr (kbt .u8) (kwr .u8 (Int.fdiv ((qP b a:Nat):Int) (2 ^ (min (Int.toNat (18:Int)) (kbt .i32)))))).toNat:Nat):Int))) fun i=>
 bnd (u8I (kwr .u8 (((jr (kbt .u8) (128:Int) ||| jr (kbt .u8) (kwr .u8 (((jr (kbt .u8) (kwr .u8 (Int.fdiv ((qP b a:Nat):Int) (2 ^ (min (Int.toNat (12:Int)) (kbt .i32))))) &&& jr (kbt .u8) (63:Int)).toNat:Nat):Int))).toNat:Nat):Int))) fun j=>
 bnd (u8I (kwr .u8 (((jr (kbt .u8) (128:Int) ||| jr (kbt .u8) (kwr .u8 (((jr (kbt .u8) (kwr .u8 (Int.fdiv ((qP b a:Nat):Int) (2 ^ (min (Int.toNat (6:Int)) (kbt .i32))))) &&& jr (kbt .u8) (63:Int)).toNat:Nat):Int))).toNat:Nat):Int))) fun k=>
 bnd (u8I (kwr .u8 (((jr (kbt .u8) (128:Int) ||| jr (kbt .u8) (kwr .u8 (((jr (kbt .u8) (kwr .u8 ((qP b a:Nat):Int)) &&& jr (kbt .u8) (63:Int)).toNat:Nat):Int))).toNat:Nat):Int))) fun l=>
 chk (decide ((qT (c++[i,j,k,l])).length * 1<=140737488355328)) (
 d ((c++[i,j,k,l]),(bif(decide (a<b.length))then xG b a else a))))
 else(
 chk (decide ((qT (c++[(239:UInt8),(191:UInt8),(189:UInt8)])).length * 1<=140737488355328)) (
 d ((c++[(239:UInt8),(191:UInt8),(189:UInt8)]),(bif(decide (a<b.length))then xG b a else a)))))
def uv (n:Nat) (b:SS):(SS×Nat->Option SS)->SS×Nat->Option SS:=fun d (c,a)=>
 bif(decide (a<b.length))then(
 bif(bif(((qP b a:Nat):Int)==92)then true else(((qP b a:Nat):Int)==39))then(
 chk (decide ((qT (c++[(92:UInt8)])).length * 1<=140737488355328)) (
 bif(decide ((kwr .u32 ((qP b a:Nat):Int))<=127))then(
 bnd (u8I (kwr .u8 ((qP b a:Nat):Int))) fun m=>
 chk (decide ((qT ((c++[(92:UInt8)])++[m])).length * 1<=140737488355328)) (
 d (((c++[(92:UInt8)])++[m]),(bif(decide (a<b.length))then xG b a else a))))
 else(
 bif(decide ((kwr .u32 ((qP b a:Nat):Int))<=2047))then(
 bnd (u8I (kwr .u8 (((jr (kbt .u8) (192:Int) ||| jr (kbt .u8) (kwr .u8 (Int.fdiv ((qP b a:Nat):Int) (2 ^ (min (Int.toNat (6:Int)) (kbt .i32)))))).toNat:Nat):Int))) fun o=>
 bnd (u8I (kwr .u8 (((jr (kbt .u8) (128:Int) ||| jr (kbt .u8) (kwr .u8 (((jr (kbt .u8) (kwr .u8 ((qP b a:Nat):Int)) &&& jr (kbt .u8) (63:Int)).toNat:Nat):Int))).toNat:Nat):Int))) fun p=>
 chk (decide ((qT ((c++[(92:UInt8)])++[o,p])).length * 1<=140737488355328)) (
 d (((c++[(92:UInt8)])++[o,p]),(bif(decide (a<b.length))then xG b a else a))))
 else(
 bif(decide ((kwr .u32 ((qP b a:Nat):Int))<55296))then(
 tC n b a c d (decide ((kwr .u32 ((qP b a:Nat):Int))<55296)))
 else(
 tC n b a c d (bif(decide ((57343:Int)<(kwr .u32 ((qP b a:Nat):Int))))then(decide ((kwr .u32 ((qP b a:Nat):Int))<=65535))else false))))))
 else(
 bif(((qP b a:Nat):Int)==10)then(
 chk (decide ((qT (c++([92,110]:SS))).length * 1<=140737488355328)) (
 d ((c++([92,110]:SS)),(bif(decide (a<b.length))then xG b a else a))))
 else(
 bif(((qP b a:Nat):Int)==9)then(
 chk (decide ((qT (c++([92,116]:SS))).length * 1<=140737488355328)) (
 d ((c++([92,116]:SS)),(bif(decide (a<b.length))then xG b a else a))))
 else(
 bif(((qP b a:Nat):Int)==13)then(
 chk (decide ((qT (c++([92,114]:SS))).length * 1<=140737488355328)) (
 d ((c++([92,114]:SS)),(bif(decide (a<b.length))then xG b a else a))))
 else(
 bnd (qD ((!(bif(decide (((qP b a:Nat):Int)<32))then true else(((qP b a:Nat):Int)==127)))&&(((qP b a:Nat):Int)==65533)) (LL ((a:Nat):Int))) fun f=>
 chk (bif((!(bif(decide (((qP b a:Nat):Int)<32))then true else(((qP b a:Nat):Int)==127)))&&(((qP b a:Nat):Int)==65533))then decide (f<=b.length)else true) (
 bnd (qD ((!(bif(decide (((qP b a:Nat):Int)<32))then true else(((qP b a:Nat):Int)==127)))&&(((qP b a:Nat):Int)==65533)) (gj n (b.drop f) ([239,191,189]:SS))) fun q=>
 bif(bif(bif(decide (((qP b a:Nat):Int)<32))then true else(((qP b a:Nat):Int)==127))then true else(bif(((qP b a:Nat):Int)==65533)then(!q)else false))then(
 bnd (idx b ((a:Nat):Int)) fun g=>
 chk (decide ((qT (c++([92,120]:SS))).length * 1<=140737488355328)) (
 bnd (idx ([48,49,50,51,52,53,54,55,56,57,97,98,99,100,101,102]:SS) (Int.fdiv ((g.toNat:Nat):Int) (2 ^ (min (Int.toNat (4:Int)) (kbt .u8))))) fun e=>
 chk (decide ((qT ((c++([92,120]:SS))++[e])).length * 1<=140737488355328)) (
 bnd (idx ([48,49,50,51,52,53,54,55,56,57,97,98,99,100,101,102]:SS) (kwr .u8 (((jr (kbt .u8) ((g.toNat:Nat):Int) &&& jr (kbt .u8) (15:Int)).toNat:Nat):Int))) fun i=>
 chk (decide ((qT (((c++([92,120]:SS))++[e])++[i])).length * 1<=140737488355328)) (
 d ((((c++([92,120]:SS))++[e])++[i]),(bif(decide (a<b.length))then xG b a else a))))))
 else(
 bif(decide ((kwr .u32 ((qP b a:Nat):Int))<=127))then(
 bnd (u8I (kwr .u8 ((qP b a:Nat):Int))) fun j=>
 chk (decide ((qT (c++[j])).length * 1<=140737488355328)) (
 d ((c++[j]),(bif(decide (a<b.length))then xG b a else a))))
 else(
 bif(decide ((kwr .u32 ((qP b a:Nat):Int))<=2047))then(
 bnd (u8I (kwr .u8 (((jr (kbt .u8) (192:Int) ||| jr (kbt .u8) (kwr .u8 (Int.fdiv ((qP b a:Nat):Int) (2 ^ (min (Int.toNat (6:Int)) (kbt .i32)))))).toNat:Nat):Int))) fun k=>
 bnd (u8I (kwr .u8 (((jr (kbt .u8) (128:Int) ||| jr (kbt .u8) (kwr .u8 (((jr (kbt .u8) (kwr .u8 ((qP b a:Nat):Int)) &&& jr (kbt .u8) (63:Int)).toNat:Nat):Int))).toNat:Nat):Int))) fun l=>
 chk (decide ((qT (c++[k,l])).length * 1<=140737488355328)) (
 d ((c++[k,l]),(bif(decide (a<b.length))then xG b a else a))))
 else(
 bif(decide ((kwr .u32 ((qP b a:Nat):Int))<55296))then(
 fP n b a c d (decide ((kwr .u32 ((qP b a:Nat):Int))<55296)))
 else(
 fP n b a c d (bif(decide ((57343:Int)<(kwr .u32 ((qP b a:Nat):Int))))then(decide ((kwr .u32 ((qP b a:Nat):Int))<=65535))else false)))))))))))
 else(
 chk (decide ((qT (c++[(39:UInt8)])).length * 1<=140737488355328)) (
 some (c++[(39:UInt8)])))
def bA (n:Nat) (a:SS):Option SS:=
 chk (decide ((qT [(39:UInt8)]).length * 1<=140737488355328)) (
 qo (uv n a) n ([(39:UInt8)],0))
theorem Xc (n:Nat):∀ (c r:SS),bA n c=some r->qb TP 110 [PV.str c] (Rf r):=by
 intro c r h;unfold bA at h;refine zN Tryz.call110 Tryz.func110 [177,178,179,181,182,1000000] ?_;conv=>whnf
 refine zI Tryz.call177 Tryz.func177 [228,1000000] ?_;conv=>whnf
 refine zI Tryz.call228 Tryz.func228 [251,1000000] ?_;conv=>whnf
 refine⟨fun _=>?_,fun hf=>absurd hf (by first|decide|simp)⟩;conv=>whnf
 refine⟨⟨by decide,by first|decide|exact Nat.zero_lt_succ _⟩,?_⟩;conv=>whnf
 refine fb.noEscape Tryz.func251 (by kernel_rfl) (by kernel_rfl) (by kernel_rfl) (by kernel_rfl) ?_;conv=>whnf
 refine⟨by kernel_rfl,?_⟩;conv=>whnf
 refine⟨Codec.one uN [(39:UInt8)],qT [(39:UInt8)],.inl rfl,?_⟩;conv=>whnf
 obtain⟨a4,h⟩:=qg h;refine⟨⟨Codec.wide uN [(39:UInt8)],kod a4,xj a4 (by decide)⟩,?_⟩;conv=>whnf
 refine qX.fn [177,178,179,181,182,1000000] (S:=SS×Nat) (fun(a,b)=>[(0,pS c),(3,.ptr 0 0),(8,.ptr 1 0)]) (fun(a,b)=>[.box 233 [.ptr 0 0,.tsl 2 (qT a)],.sit c b,.tail 5 1 (qT a).length]) (B:=uv n c) h (wk [0,2,1] []) ?_;intro a7 st h;obtain⟨a,b⟩:=st;unfold uv at h;conv=>whnf
 refine⟨(decide (b<c.length)),(bif(decide (b<c.length))then xG c b else b),⟨rfl,rfl⟩,?_⟩;conv=>whnf
 apply ifc h<;>intro d h
 ·conv=>whnf
  refine⟨by assumption,?_⟩;conv=>whnf
  refine⟨by assumption,?_⟩;conv=>whnf
  refine⟨id,id,?_⟩;conv=>whnf
  apply ifc h<;>intro d h
  ·conv=>whnf
   refine zI Tryz.call177 Tryz.func177 [228,1000000] ?_;conv=>whnf
   refine zI Tryz.call228 Tryz.func228 [251,1000000] ?_;conv=>whnf
   refine⟨fun hf=>absurd hf (by first|decide|simp),fun _=>?_⟩;conv=>whnf
   refine⟨fun hf=>absurd hf (by first|decide|simp),fun _=>?_⟩;conv=>whnf
   refine⟨Codec.one uN [(92:UInt8)],qT [(92:UInt8)],.inl rfl,?_⟩;conv=>whnf
   rw[show qT a++qT [(92:UInt8)]=qT (a++[(92:UInt8)])from Codec.append uN a [(92:UInt8)]];conv=>whnf
   obtain⟨O,h⟩:=qg h;refine⟨⟨Codec.wide uN (a++[(92:UInt8)]),kod O,xj O (by decide)⟩,?_⟩;conv=>whnf
   refine⟨⟨rfl,rfl,rfl⟩,?_⟩;conv=>whnf
   refine zI Tryz.call178 Tryz.func178 [228,229,1000000] ?_;conv=>whnf
   refine zI Tryz.call228 Tryz.func228 [251,1000000] ?_;conv=>whnf
   refine⟨fun hf=>absurd hf (by first|decide|simp),fun _=>?_⟩;conv=>whnf
   refine⟨fun hf=>absurd hf (by first|decide|simp),fun _=>?_⟩;conv=>whnf
   refine zI Tryz.call229 Tryz.func229 [252,1000000] ?_;conv=>whnf
   apply ifc h<;>intro d h
   ·conv=>whnf
    refine bq h fun C a8 h=>?_;rw[show([[PV.int .u8 (kwr .u8 ((qP c b:Nat):Int))]]:List (List PV))=qT [C]from by rw[vQ a8]; rfl];refine⟨Codec.one uN [C],_,.inl rfl,?_⟩;(conv=>whnf);rw[show qT (a++[(92:UInt8)])++qT [C]=qT ((a++[(92:UInt8)])++[C])from Codec.append uN (a++[(92:UInt8)]) [C]];(conv=>whnf);obtain⟨U,h⟩:=qg h;refine⟨⟨Codec.wide uN ((a++[(92:UInt8)])++[C]),kod U,xj U (by decide)⟩,?_⟩;(conv=>whnf);refine⟨⟨rfl,rfl,rfl⟩,?_⟩;(conv=>whnf);exact⟨(((a++[(92:UInt8)])++[C]),(bif(decide (b<c.length))then xG c b else b)),h,wk [0,1,4] []⟩
   conv=>whnf
   refine zI Tryz.call252 Tryz.func252 [1000000] ?_;conv=>whnf
   apply ifc h<;>intro d h
   ·conv=>whnf
    refine⟨by unfold gI; decide,?_⟩;(conv=>whnf);refine bq h fun D b9 h=>?_;refine bq h fun F c7 h=>?_;rw[show([[PV.int .u8 (kwr .u8 (((jr (kbt .u8) (192:Int) ||| jr (kbt .u8) (kwr .u8 (Int.fdiv ((qP c b:Nat):Int) (2 ^ (min (Int.toNat (6:Int)) (kbt .i32)))))).toNat:Nat):Int))],[PV.int .u8 (kwr .u8 (((jr (kbt .u8) (128:Int) ||| jr (kbt .u8) (kwr .u8 (((jr (kbt .u8) (kwr .u8 ((qP c b:Nat):Int)) &&& jr (kbt .u8) (63:Int)).toNat:Nat):Int))).toNat:Nat):Int))]]:List (List PV))=qT [D,F]from by rw[vQ b9,vQ c7]; rfl];refine⟨Codec.one uN [D,F],_,.inl rfl,?_⟩;(conv=>whnf);rw[show qT (a++[(92:UInt8)])++qT [D,F]=qT ((a++[(92:UInt8)])++[D,F])from Codec.append uN (a++[(92:UInt8)]) [D,F]];(conv=>whnf);obtain⟨a5,h⟩:=qg h;refine⟨⟨Codec.wide uN ((a++[(92:UInt8)])++[D,F]),kod a5,xj a5 (by decide)⟩,?_⟩;(conv=>whnf);refine⟨⟨rfl,rfl,rfl⟩,?_⟩;(conv=>whnf);exact⟨(((a++[(92:UInt8)])++[D,F]),(bif(decide (b<c.length))then xG c b else b)),h,wk [0,1,4] []⟩
   conv=>whnf
   refine cY.cut (S:=Bool) (fun L=>[(0,.tsl 3 (qT (a++[(92:UInt8)]))),(1,.p (.int .i32 ((qP c b:Nat):Int))),(5,.p (.int .u32 (kwr .u32 ((qP c b:Nat):Int)))),(25,pB L)]) (fun L=>[.box 233 [.ptr 0 0,.tsl 3 (qT (a++[(92:UInt8)]))],.sit c (bif(decide (b<c.length))then xG c b else b),.dead,.tail 5 1 (qT (a++[(92:UInt8)])).length]) (tC n c b a a7) (r:=r) ?_ ?_
   ·intro L h
    unfold tC at h;(conv=>whnf);apply ifc h<;>intro d h
    ·conv=>whnf
     refine⟨by unfold gI; decide,?_⟩;(conv=>whnf);refine⟨by unfold gI; decide,?_⟩;(conv=>whnf);refine bq h fun G d1 h=>?_;refine bq h fun H d2 h=>?_;refine bq h fun f d3 h=>?_;rw[show([[PV.int .u8 (kwr .u8 (((jr (kbt .u8) (224:Int) ||| jr (kbt .u8) (kwr .u8 (Int.fdiv ((qP c b:Nat):Int) (2 ^ (min (Int.toNat (12:Int)) (kbt .i32)))))).toNat:Nat):Int))],[PV.int .u8 (kwr .u8 (((jr (kbt .u8) (128:Int) ||| jr (kbt .u8) (kwr .u8 (((jr (kbt .u8) (kwr .u8 (Int.fdiv ((qP c b:Nat):Int) (2 ^ (min (Int.toNat (6:Int)) (kbt .i32))))) &&& jr (kbt .u8) (63:Int)).toNat:Nat):Int))).toNat:Nat):Int))],[PV.int .u8 (kwr .u8 (((jr (kbt .u8) (128:Int) ||| jr (kbt .u8) (kwr .u8 (((jr (kbt .u8) (kwr .u8 ((qP c b:Nat):Int)) &&& jr (kbt .u8) (63:Int)).toNat:Nat):Int))).toNat:Nat):Int))]]:List (List PV))=qT [G,H,f]from by rw[vQ d1,vQ d2,vQ d3]; rfl];refine⟨Codec.one uN [G,H,f],_,.inl rfl,?_⟩;(conv=>whnf);rw[show qT (a++[(92:UInt8)])++qT [G,H,f]=qT ((a++[(92:UInt8)])++[G,H,f])from Codec.append uN (a++[(92:UInt8)]) [G,H,f]];(conv=>whnf);obtain⟨a6,h⟩:=qg h;refine⟨⟨Codec.wide uN ((a++[(92:UInt8)])++[G,H,f]),kod a6,xj a6 (by decide)⟩,?_⟩;(conv=>whnf);refine⟨⟨rfl,rfl,rfl⟩,?_⟩;(conv=>whnf);exact⟨(((a++[(92:UInt8)])++[G,H,f]),(bif(decide (b<c.length))then xG c b else b)),h,wk [0,1,4] []⟩
    (conv=>whnf);refine⟨id,id,?_⟩
    (conv=>whnf);apply ifc h<;>intro d h
    ·conv=>whnf
     refine⟨by unfold gI; decide,?_⟩;(conv=>whnf);refine⟨by unfold gI; decide,?_⟩;(conv=>whnf);refine⟨by unfold gI; decide,?_⟩;(conv=>whnf);refine bq h fun g a9 h=>?_;refine bq h fun i b0 h=>?_;refine bq h fun l b1 h=>?_;refine bq h fun m b2 h=>?_;rw[show([[PV.int .u8 (kwr .u8 (((jr (kbt .u8) (240:Int) ||| jr (kbt .u8) (kwr .u8 (Int.fdiv ((qP c b:Nat):Int) (2 ^ (min (Int.toNat (18:Int)) (kbt .i32)))))).toNat:Nat):Int))],[PV.int .u8 (kwr .u8 (((jr (kbt .u8) (128:Int) ||| jr (kbt .u8) (kwr .u8 (((jr (kbt .u8) (kwr .u8 (Int.fdiv ((qP c b:Nat):Int) (2 ^ (min (Int.toNat (12:Int)) (kbt .i32))))) &&& jr (kbt .u8) (63:Int)).toNat:Nat):Int))).toNat:Nat):Int))],[PV.int .u8 (kwr .u8 (((jr (kbt .u8) (128:Int) ||| jr (kbt .u8) (kwr .u8 (((jr (kbt .u8) (kwr .u8 (Int.fdiv ((qP c b:Nat):Int) (2 ^ (min (Int.toNat (6:Int)) (kbt .i32))))) &&& jr (kbt .u8) (63:Int)).toNat:Nat):Int))).toNat:Nat):Int))],[PV.int .u8 (kwr .u8 (((jr (kbt .u8) (128:Int) ||| jr (kbt .u8) (kwr .u8 (((jr (kbt .u8) (kwr .u8 ((qP c b:Nat):Int)) &&& jr (kbt .u8) (63:Int)).toNat:Nat):Int))).toNat:Nat):Int))]]:List (List PV))=qT [g,i,l,m]from by rw[vQ a9,vQ b0,vQ b1,vQ b2]; rfl];refine⟨Codec.one uN [g,i,l,m],_,.inl rfl,?_⟩;(conv=>whnf);rw[show qT (a++[(92:UInt8)])++qT [g,i,l,m]=qT ((a++[(92:UInt8)])++[g,i,l,m])from Codec.append uN (a++[(92:UInt8)]) [g,i,l,m]];(conv=>whnf);obtain⟨M,h⟩:=qg h;refine⟨⟨Codec.wide uN ((a++[(92:UInt8)])++[g,i,l,m]),kod M,xj M (by decide)⟩,?_⟩;(conv=>whnf);refine⟨⟨rfl,rfl,rfl⟩,?_⟩;(conv=>whnf);exact⟨(((a++[(92:UInt8)])++[g,i,l,m]),(bif(decide (b<c.length))then xG c b else b)),h,wk [0,1,4] []⟩
    (conv=>whnf);refine⟨Codec.one uN [(239:UInt8),(191:UInt8),(189:UInt8)],qT [(239:UInt8),(191:UInt8),(189:UInt8)],.inl rfl,?_⟩
    (conv=>whnf);rw[show qT (a++[(92:UInt8)])++qT [(239:UInt8),(191:UInt8),(189:UInt8)]=qT ((a++[(92:UInt8)])++[(239:UInt8),(191:UInt8),(189:UInt8)])from Codec.append uN (a++[(92:UInt8)]) [(239:UInt8),(191:UInt8),(189:UInt8)]]
    (conv=>whnf);obtain⟨N,h⟩:=qg h
    refine⟨⟨Codec.wide uN ((a++[(92:UInt8)])++[(239:UInt8),(191:UInt8),(189:UInt8)]),kod N,xj N (by decide)⟩,?_⟩;(conv=>whnf);refine⟨⟨rfl,rfl,rfl⟩,?_⟩;(conv=>whnf);exact⟨(((a++[(92:UInt8)])++[(239:UInt8),(191:UInt8),(189:UInt8)]),(bif(decide (b<c.length))then xG c b else b)),h,wk [0,1,4] []⟩
   conv=>whnf
   apply ifc h<;>intro d h
   ·conv=>whnf
    exact⟨(decide ((kwr .u32 ((qP c b:Nat):Int))<55296)),h,wk [0,1,2,3] []⟩
   conv=>whnf
   refine⟨id,id,?_⟩;conv=>whnf
   exact⟨(bif(decide ((57343:Int)<(kwr .u32 ((qP c b:Nat):Int))))then(decide ((kwr .u32 ((qP c b:Nat):Int))<=65535))else false),h,wk [0,1,2,3] []⟩
  conv=>whnf
  apply ifc h<;>intro d h
  ·conv=>whnf
   refine zI Tryz.call179 Tryz.func179 [228,1000000] ?_;conv=>whnf
   refine zI Tryz.call228 Tryz.func228 [251,1000000] ?_;conv=>whnf
   refine⟨fun hf=>absurd hf (by first|decide|simp),fun _=>?_⟩;conv=>whnf
   refine⟨fun hf=>absurd hf (by first|decide|simp),fun _=>?_⟩;conv=>whnf
   rw[show qT a++qT ([92,110]:SS)=qT (a++([92,110]:SS))from Codec.append uN a ([92,110]:SS)];conv=>whnf
   obtain⟨P,h⟩:=qg h;refine⟨⟨Codec.wide uN a,kod P,xj P (by decide)⟩,?_⟩;conv=>whnf
   refine⟨⟨rfl,rfl,rfl⟩,?_⟩;conv=>whnf
   exact⟨((a++([92,110]:SS)),(bif(decide (b<c.length))then xG c b else b)),h,wk [0,1,3] []⟩
  conv=>whnf
  apply ifc h<;>intro d h
  ·conv=>whnf
   refine zI Tryz.call179 Tryz.func179 [228,1000000] ?_;conv=>whnf
   refine zI Tryz.call228 Tryz.func228 [251,1000000] ?_;conv=>whnf
   refine⟨fun hf=>absurd hf (by first|decide|simp),fun _=>?_⟩;conv=>whnf
   refine⟨fun hf=>absurd hf (by first|decide|simp),fun _=>?_⟩;conv=>whnf
   rw[show qT a++qT ([92,116]:SS)=qT (a++([92,116]:SS))from Codec.append uN a ([92,116]:SS)];conv=>whnf
   obtain⟨Q,h⟩:=qg h;refine⟨⟨Codec.wide uN a,kod Q,xj Q (by decide)⟩,?_⟩;conv=>whnf
   refine⟨⟨rfl,rfl,rfl⟩,?_⟩;conv=>whnf
   exact⟨((a++([92,116]:SS)),(bif(decide (b<c.length))then xG c b else b)),h,wk [0,1,3] []⟩
  conv=>whnf
  apply ifc h<;>intro d h
  ·conv=>whnf
   refine zI Tryz.call179 Tryz.func179 [228,1000000] ?_;conv=>whnf
   refine zI Tryz.call228 Tryz.func228 [251,1000000] ?_;conv=>whnf
   refine⟨fun hf=>absurd hf (by first|decide|simp),fun _=>?_⟩;conv=>whnf
   refine⟨fun hf=>absurd hf (by first|decide|simp),fun _=>?_⟩;conv=>whnf
   rw[show qT a++qT ([92,114]:SS)=qT (a++([92,114]:SS))from Codec.append uN a ([92,114]:SS)];conv=>whnf
   obtain⟨R,h⟩:=qg h;refine⟨⟨Codec.wide uN a,kod R,xj R (by decide)⟩,?_⟩;conv=>whnf
   refine⟨⟨rfl,rfl,rfl⟩,?_⟩;conv=>whnf
   exact⟨((a++([92,114]:SS)),(bif(decide (b<c.length))then xG c b else b)),h,wk [0,1,3] []⟩
  conv=>whnf
  iterate 6 refine⟨id,?_⟩
  conv=>whnf
  refine bq h fun J d0 h=>⟨_,fun I=>gK (qa d0 I),?_⟩;conv=>whnf
  obtain⟨c9,h⟩:=qg h;refine⟨fun I=>⟨(kod (gd c9 I):(J<=c.length)),Nat.le_refl _⟩,?_⟩;rw[show List.drop J (List.take c.length c)=(c.drop J)from by rw[List.take_length]];conv=>whnf
  refine⟨id,?_⟩;conv=>whnf
  refine bq h fun _ c8 h=>⟨_,fun I=>(UO n _ _ _ (qa c8 I)),?_⟩;conv=>whnf
  refine⟨id,id,id,id,?_⟩;conv=>whnf
  apply ifc h<;>intro d h
  ·conv=>whnf
   refine bq h fun _ b5 h=>⟨_,bX b5,?_⟩;conv=>whnf
   refine zI Tryz.call181 Tryz.func181 [177,179,1000000] ?_;conv=>whnf
   refine zI Tryz.call179 Tryz.func179 [228,1000000] ?_;conv=>whnf
   refine zI Tryz.call228 Tryz.func228 [251,1000000] ?_;conv=>whnf
   refine⟨fun hf=>absurd hf (by first|decide|simp),fun _=>?_⟩;conv=>whnf
   refine⟨fun hf=>absurd hf (by first|decide|simp),fun _=>?_⟩;conv=>whnf
   rw[show qT a++qT ([92,120]:SS)=qT (a++([92,120]:SS))from Codec.append uN a ([92,120]:SS)];conv=>whnf
   obtain⟨X,h⟩:=qg h;refine⟨⟨Codec.wide uN a,kod X,xj X (by decide)⟩,?_⟩;conv=>whnf
   refine⟨⟨rfl,rfl,rfl⟩,?_⟩;conv=>whnf
   refine⟨by unfold gI; decide,?_⟩;conv=>whnf
   refine bq h fun e b4 h=>⟨_,bX b4,?_⟩;conv=>whnf
   refine zI Tryz.call177 Tryz.func177 [228,1000000] ?_;conv=>whnf
   refine zI Tryz.call228 Tryz.func228 [251,1000000] ?_;conv=>whnf
   refine⟨fun hf=>absurd hf (by first|decide|simp),fun _=>?_⟩;conv=>whnf
   refine⟨fun hf=>absurd hf (by first|decide|simp),fun _=>?_⟩;conv=>whnf
   refine⟨Codec.one uN [e],qT [e],.inl rfl,?_⟩;conv=>whnf
   rw[show qT (a++([92,120]:SS))++qT [e]=qT ((a++([92,120]:SS))++[e])from Codec.append uN (a++([92,120]:SS)) [e]];conv=>whnf
   obtain⟨W,h⟩:=qg h;refine⟨⟨Codec.wide uN ((a++([92,120]:SS))++[e]),kod W,xj W (by decide)⟩,?_⟩;conv=>whnf
   refine⟨⟨rfl,rfl,rfl⟩,?_⟩;conv=>whnf
   refine bq h fun o b3 h=>⟨_,bX b3,?_⟩;conv=>whnf
   refine zI Tryz.call177 Tryz.func177 [228,1000000] ?_;conv=>whnf
   refine zI Tryz.call228 Tryz.func228 [251,1000000] ?_;conv=>whnf
   refine⟨fun hf=>absurd hf (by first|decide|simp),fun _=>?_⟩;conv=>whnf
   refine⟨fun hf=>absurd hf (by first|decide|simp),fun _=>?_⟩;conv=>whnf
   refine⟨Codec.one uN [o],qT [o],.inl rfl,?_⟩;conv=>whnf
   rw[show qT ((a++([92,120]:SS))++[e])++qT [o]=qT (((a++([92,120]:SS))++[e])++[o])from Codec.append uN ((a++([92,120]:SS))++[e]) [o]];conv=>whnf
   obtain⟨V,h⟩:=qg h;refine⟨⟨Codec.wide uN (((a++([92,120]:SS))++[e])++[o]),kod V,xj V (by decide)⟩,?_⟩;conv=>whnf
   refine⟨⟨rfl,rfl,rfl⟩,?_⟩;conv=>whnf
   exact⟨((((a++([92,120]:SS))++[e])++[o]),(bif(decide (b<c.length))then xG c b else b)),h,wk [0,1,5] []⟩
  conv=>whnf
  refine zI Tryz.call178 Tryz.func178 [228,229,1000000] ?_;conv=>whnf
  refine zI Tryz.call228 Tryz.func228 [251,1000000] ?_;conv=>whnf
  refine⟨fun hf=>absurd hf (by first|decide|simp),fun _=>?_⟩;conv=>whnf
  refine⟨fun hf=>absurd hf (by first|decide|simp),fun _=>?_⟩;conv=>whnf
  refine zI Tryz.call229 Tryz.func229 [252,1000000] ?_;conv=>whnf
  apply ifc h<;>intro d h
  ·conv=>whnf
   refine bq h fun q b6 h=>?_;rw[show([[PV.int .u8 (kwr .u8 ((qP c b:Nat):Int))]]:List (List PV))=qT [q]from by rw[vQ b6]; rfl];refine⟨Codec.one uN [q],_,.inl rfl,?_⟩;conv=>whnf
   rw[show qT a++qT [q]=qT (a++[q])from Codec.append uN a [q]];conv=>whnf
   obtain⟨Y,h⟩:=qg h;refine⟨⟨Codec.wide uN (a++[q]),kod Y,xj Y (by decide)⟩,?_⟩;conv=>whnf
   refine⟨⟨rfl,rfl,rfl⟩,?_⟩;conv=>whnf
   exact⟨((a++[q]),(bif(decide (b<c.length))then xG c b else b)),h,wk [0,1,3] []⟩
  conv=>whnf
  refine zI Tryz.call252 Tryz.func252 [1000000] ?_;conv=>whnf
  apply ifc h<;>intro d h
  ·conv=>whnf
   refine⟨by unfold gI; decide,?_⟩;conv=>whnf
   refine bq h fun s b7 h=>?_;refine bq h fun t b8 h=>?_;rw[show([[PV.int .u8 (kwr .u8 (((jr (kbt .u8) (192:Int) ||| jr (kbt .u8) (kwr .u8 (Int.fdiv ((qP c b:Nat):Int) (2 ^ (min (Int.toNat (6:Int)) (kbt .i32)))))).toNat:Nat):Int))],[PV.int .u8 (kwr .u8 (((jr (kbt .u8) (128:Int) ||| jr (kbt .u8) (kwr .u8 (((jr (kbt .u8) (kwr .u8 ((qP c b:Nat):Int)) &&& jr (kbt .u8) (63:Int)).toNat:Nat):Int))).toNat:Nat):Int))]]:List (List PV))=qT [s,t]from by rw[vQ b7,vQ b8]; rfl];refine⟨Codec.one uN [s,t],_,.inl rfl,?_⟩;conv=>whnf
   rw[show qT a++qT [s,t]=qT (a++[s,t])from Codec.append uN a [s,t]];conv=>whnf
   obtain⟨Z,h⟩:=qg h;refine⟨⟨Codec.wide uN (a++[s,t]),kod Z,xj Z (by decide)⟩,?_⟩;conv=>whnf
   refine⟨⟨rfl,rfl,rfl⟩,?_⟩;conv=>whnf
   exact⟨((a++[s,t]),(bif(decide (b<c.length))then xG c b else b)),h,wk [0,1,3] []⟩
  conv=>whnf
  refine cY.cut (S:=Bool) (fun K=>[(0,.tsl 2 (qT a)),(1,.p (.int .i32 ((qP c b:Nat):Int))),(5,.p (.int .u32 (kwr .u32 ((qP c b:Nat):Int)))),(25,pB K)]) (fun K=>[.box 233 [.ptr 0 0,.tsl 2 (qT a)],.sit c (bif(decide (b<c.length))then xG c b else b),.tail 5 1 (qT a).length]) (fP n c b a a7) (r:=r) ?_ ?_
  ·intro K h
   unfold fP at h;conv=>whnf
   apply ifc h<;>intro d h
   ·conv=>whnf
    refine⟨by unfold gI; decide,?_⟩;(conv=>whnf);refine⟨by unfold gI; decide,?_⟩;(conv=>whnf);refine bq h fun u c0 h=>?_;refine bq h fun v c1 h=>?_;refine bq h fun w c2 h=>?_;rw[show([[PV.int .u8 (kwr .u8 (((jr (kbt .u8) (224:Int) ||| jr (kbt .u8) (kwr .u8 (Int.fdiv ((qP c b:Nat):Int) (2 ^ (min (Int.toNat (12:Int)) (kbt .i32)))))).toNat:Nat):Int))],[PV.int .u8 (kwr .u8 (((jr (kbt .u8) (128:Int) ||| jr (kbt .u8) (kwr .u8 (((jr (kbt .u8) (kwr .u8 (Int.fdiv ((qP c b:Nat):Int) (2 ^ (min (Int.toNat (6:Int)) (kbt .i32))))) &&& jr (kbt .u8) (63:Int)).toNat:Nat):Int))).toNat:Nat):Int))],[PV.int .u8 (kwr .u8 (((jr (kbt .u8) (128:Int) ||| jr (kbt .u8) (kwr .u8 (((jr (kbt .u8) (kwr .u8 ((qP c b:Nat):Int)) &&& jr (kbt .u8) (63:Int)).toNat:Nat):Int))).toNat:Nat):Int))]]:List (List PV))=qT [u,v,w]from by rw[vQ c0,vQ c1,vQ c2]; rfl];refine⟨Codec.one uN [u,v,w],_,.inl rfl,?_⟩;(conv=>whnf);rw[show qT a++qT [u,v,w]=qT (a++[u,v,w])from Codec.append uN a [u,v,w]];(conv=>whnf);obtain⟨a0,h⟩:=qg h;refine⟨⟨Codec.wide uN (a++[u,v,w]),kod a0,xj a0 (by decide)⟩,?_⟩;(conv=>whnf);refine⟨⟨rfl,rfl,rfl⟩,?_⟩;(conv=>whnf);exact⟨((a++[u,v,w]),(bif(decide (b<c.length))then xG c b else b)),h,wk [0,1,3] []⟩
   conv=>whnf
   refine⟨id,id,?_⟩;conv=>whnf
   apply ifc h<;>intro d h
   ·conv=>whnf
    refine⟨by unfold gI; decide,?_⟩;(conv=>whnf);refine⟨by unfold gI; decide,?_⟩;(conv=>whnf);refine⟨by unfold gI; decide,?_⟩;(conv=>whnf);refine bq h fun x c3 h=>?_;refine bq h fun y c4 h=>?_;refine bq h fun z c5 h=>?_;refine bq h fun A c6 h=>?_;rw[show([[PV.int .u8 (kwr .u8 (((jr (kbt .u8) (240:Int) ||| jr (kbt .u8) (kwr .u8 (Int.fdiv ((qP c b:Nat):Int) (2 ^ (min (Int.toNat (18:Int)) (kbt .i32)))))).toNat:Nat):Int))],[PV.int .u8 (kwr .u8 (((jr (kbt .u8) (128:Int) ||| jr (kbt .u8) (kwr .u8 (((jr (kbt .u8) (kwr .u8 (Int.fdiv ((qP c b:Nat):Int) (2 ^ (min (Int.toNat (12:Int)) (kbt .i32))))) &&& jr (kbt .u8) (63:Int)).toNat:Nat):Int))).toNat:Nat):Int))],[PV.int .u8 (kwr .u8 (((jr (kbt .u8) (128:Int) ||| jr (kbt .u8) (kwr .u8 (((jr (kbt .u8) (kwr .u8 (Int.fdiv ((qP c b:Nat):Int) (2 ^ (min (Int.toNat (6:Int)) (kbt .i32))))) &&& jr (kbt .u8) (63:Int)).toNat:Nat):Int))).toNat:Nat):Int))],[PV.int .u8 (kwr .u8 (((jr (kbt .u8) (128:Int) ||| jr (kbt .u8) (kwr .u8 (((jr (kbt .u8) (kwr .u8 ((qP c b:Nat):Int)) &&& jr (kbt .u8) (63:Int)).toNat:Nat):Int))).toNat:Nat):Int))]]:List (List PV))=qT [x,y,z,A]from by rw[vQ c3,vQ c4,vQ c5,vQ c6]; rfl];refine⟨Codec.one uN [x,y,z,A],_,.inl rfl,?_⟩;(conv=>whnf);rw[show qT a++qT [x,y,z,A]=qT (a++[x,y,z,A])from Codec.append uN a [x,y,z,A]];(conv=>whnf);obtain⟨a1,h⟩:=qg h;refine⟨⟨Codec.wide uN (a++[x,y,z,A]),kod a1,xj a1 (by decide)⟩,?_⟩;(conv=>whnf);refine⟨⟨rfl,rfl,rfl⟩,?_⟩;(conv=>whnf);exact⟨((a++[x,y,z,A]),(bif(decide (b<c.length))then xG c b else b)),h,wk [0,1,3] []⟩
   conv=>whnf
   refine⟨Codec.one uN [(239:UInt8),(191:UInt8),(189:UInt8)],qT [(239:UInt8),(191:UInt8),(189:UInt8)],.inl rfl,?_⟩;conv=>whnf
   rw[show qT a++qT [(239:UInt8),(191:UInt8),(189:UInt8)]=qT (a++[(239:UInt8),(191:UInt8),(189:UInt8)])from Codec.append uN a [(239:UInt8),(191:UInt8),(189:UInt8)]];conv=>whnf
   obtain⟨a2,h⟩:=qg h;refine⟨⟨Codec.wide uN (a++[(239:UInt8),(191:UInt8),(189:UInt8)]),kod a2,xj a2 (by decide)⟩,?_⟩;conv=>whnf
   refine⟨⟨rfl,rfl,rfl⟩,?_⟩;conv=>whnf
   exact⟨((a++[(239:UInt8),(191:UInt8),(189:UInt8)]),(bif(decide (b<c.length))then xG c b else b)),h,wk [0,1,3] []⟩
  conv=>whnf
  apply ifc h<;>intro d h
  ·conv=>whnf
   exact⟨(decide ((kwr .u32 ((qP c b:Nat):Int))<55296)),h,wk [0,1,2] []⟩
  conv=>whnf
  refine⟨id,id,?_⟩;conv=>whnf
  exact⟨(bif(decide ((57343:Int)<(kwr .u32 ((qP c b:Nat):Int))))then(decide ((kwr .u32 ((qP c b:Nat):Int))<=65535))else false),h,wk [0,1,2] []⟩
 conv=>whnf
 refine zI Tryz.call177 Tryz.func177 [228,1000000] ?_;conv=>whnf
 refine zI Tryz.call228 Tryz.func228 [251,1000000] ?_;conv=>whnf
 refine⟨fun hf=>absurd hf (by first|decide|simp),fun _=>?_⟩;conv=>whnf
 refine⟨fun hf=>absurd hf (by first|decide|simp),fun _=>?_⟩;conv=>whnf
 refine⟨Codec.one uN [(39:UInt8)],qT [(39:UInt8)],.inl rfl,?_⟩;conv=>whnf
 rw[show qT a++qT [(39:UInt8)]=qT (a++[(39:UInt8)])from Codec.append uN a [(39:UInt8)]];conv=>whnf
 obtain⟨a3,h⟩:=qg h;refine⟨⟨Codec.wide uN (a++[(39:UInt8)]),kod a3,xj a3 (by decide)⟩,?_⟩;conv=>whnf
 refine⟨⟨rfl,rfl,rfl⟩,?_⟩;conv=>whnf
 refine fb.string_any (T:=233) (E:=5) qe4 NS NR (k:=0) (j:=3) (bs:=(a++[(39:UInt8)])) (n:=(qT (a++[(39:UInt8)])).length) rfl rfl ?_;obtain rfl:=sj h;conv=>whnf
 try exact fin
abbrev Tj (r:SS):PV:=PV.str r
def dt (n:Nat) (a:SS):Option SS:=
 bnd (vP n a) fun b=>
 bif b then(
 some a)
 else(
 bnd (bA n a) fun c=>
 some c)
theorem mV (n:Nat):∀ (a r:SS),dt n a=some r->qb TP 57 [PV.str a] (Tj r):=by
 intro a r h;unfold dt at h;refine zN Tryz.call57 Tryz.func57 [1000000] ?_;conv=>whnf
 refine bq h fun _ c h=>⟨_,(uK n _ _ c),?_⟩;conv=>whnf
 apply ifc h<;>intro _ h
 ·obtain rfl:=sj h
  conv=>whnf
  try exact fin
 conv=>whnf
 refine bq h fun _ b h=>⟨_,(Xc n _ _ b),?_⟩;obtain rfl:=sj h;conv=>whnf
 try exact fin
abbrev QT (r:Int):PV:=PV.int .i64 r
def zB (n:Nat) (b:List SS) (d:SS):LK (Int) (Int):=fun c a=>
 bif(decide (a<((qi b).length:Int)))then(
 bnd (idx b a) fun e=>
 bif(d==e)then(
 some a)
 else(
 c (kwr .i64 (a+1))))
 else(
 some (-1:Int))
def uf (n:Nat) (a:List SS) (b:SS):Option (Int):=
 qo (zB n a b) n (0:Int)
theorem Qf (n:Nat):∀ (a:List SS) (b:SS) (r:Int),uf n a b=some r->qb TP 100 [PV.sl (qi a),PV.str b] (QT r):=by
 intro a b r h;unfold uf at h;refine zN Tryz.call100 Tryz.func100 [1000000] ?_;conv=>whnf
 refine qX.fn [1000000] (S:=Int) (fun c=>[(0,pT a),(1,pS b),(7,.p (.int .i64 ((qi a).length:Int))),(8,pI c)]) (fun c=>[]) (B:=zB n a b) h (wk [] []) ?_;intro _ c h;unfold zB at h;conv=>whnf
 apply ifc h<;>intro e h
 ·conv=>whnf
  refine bq h fun _ d h=>⟨_,Codec.at_ cc d,?_⟩;conv=>whnf
  apply ifc h<;>intro e h
  ·obtain rfl:=sj h
   conv=>whnf
   try exact fin
  conv=>whnf
  exact⟨(kwr .i64 (c+1)),h,wk [] []⟩
 obtain rfl:=sj h;conv=>whnf
 try exact fin
abbrev tE (r:Bool):PV:=PV.bool r
def zP (n:Nat) (a:List SS) (b:SS):Option (Bool):=
 bnd (uf n a b) fun c=>
 some (decide (c≥0))
theorem fZ (n:Nat):∀ (a:List SS) (b:SS) (r:Bool),zP n a b=some r->qb TP 54 [PV.sl (qi a),PV.str b] (tE r):=by
 intro a b r h;unfold zP at h;refine zN Tryz.call54 Tryz.func54 [1000000] ?_;conv=>whnf
 refine bq h fun _ c h=>⟨_,(Qf n _ _ _ c),?_⟩;obtain rfl:=sj h;conv=>whnf
 try exact fin
abbrev FZ (r:Bool):PV:=PV.bool r
def cK (n:Nat) (a:SS):Option (Bool):=
 some (!(a==a))
theorem QL (n:Nat):∀ (a:SS) (r:Bool),cK n a=some r->qb TP 241 [PV.str a] (FZ r):=by
 intro a r h;unfold cK at h;refine zN Tryz.call241 Tryz.func241 [1000000] ?_;obtain rfl:=sj h;conv=>whnf
 try exact fin
abbrev CV (r:Bool):PV:=PV.bool r
def dY (n:Nat) (a b:SS):Option (Bool):=
 bnd (cK n a) fun c=>
 bnd (qD c (cK n b)) fun d=>
 some (bif(bif c then(!d)else false)then true else(Op.bytesLess a b))
theorem FB (n:Nat):∀ (a b:SS) (r:Bool),dY n a b=some r->qb TP 191 [PV.str a,PV.str b] (CV r):=by
 intro a b r h;unfold dY at h;refine zN Tryz.call191 Tryz.func191 [1000000] ?_;conv=>whnf
 refine bq h fun _ d h=>⟨_,(QL n _ _ d),?_⟩;conv=>whnf
 refine⟨id,?_⟩;conv=>whnf
 refine bq h fun _ c h=>⟨_,fun e=>(QL n _ _ (qa c e)),?_⟩;conv=>whnf
 refine⟨id,id,id,id,id,?_⟩;obtain rfl:=sj h;conv=>whnf
 try exact fin
abbrev Uf (r:Bool):PV:=PV.bool r
def gF (n:Nat) (a:SS):Option (Bool):=
 some (!(a==a))
theorem sZ (n:Nat):∀ (a:SS) (r:Bool),gF n a=some r->qb TP 253 [PV.str a] (Uf r):=by
 intro a r h;unfold gF at h;refine zN Tryz.call253 Tryz.func253 [1000000] ?_;obtain rfl:=sj h;conv=>whnf
 try exact fin
abbrev rR (r:Int×Bool):PV:=PV.tup [PV.int .i64 r.1,PV.bool r.2]
def zp (n:Nat) (b:List SS) (c:SS):LK (Int×Int) (Int×Bool):=fun f (a,d)=>
 bif(decide (a<d))then(
 bnd (idx b (kwr .i64 (Int.fdiv (kwr .u64 (kwr .i64 (a+d))) (2 ^ (min (Int.toNat (1:Int)) IntKind.u64.bits))))) fun j=>
 bnd (dY n j c) fun k=>
 bif k then(
 f ((kwr .i64 ((kwr .i64 (Int.fdiv (kwr .u64 (kwr .i64 (a+d))) (2 ^ (min (Int.toNat (1:Int)) IntKind.u64.bits))))+1)),d))
 else(
 f (a,(kwr .i64 (Int.fdiv (kwr .u64 (kwr .i64 (a+d))) (2 ^ (min (Int.toNat (1:Int)) IntKind.u64.bits)))))))
 else(
 bnd (qD (decide (a<((qi b).length:Int))) (idx b a)) fun e=>
 bnd (qD ((decide (a<((qi b).length:Int)))&&(!(e==c))) (idx b a)) fun l=>
 bnd (qD ((decide (a<((qi b).length:Int)))&&(!(e==c))) (gF n l)) fun g=>
 bnd (qD (((decide (a<((qi b).length:Int)))&&(!(e==c)))&&g) (gF n c)) fun i=>
 some (a,(bif(decide (a<((qi b).length:Int)))then(bif(e==c)then true else(bif g then i else false))else false)))
def zR (n:Nat) (a:List SS) (b:SS):Option (Int×Bool):=
 qo (zp n a b) n ((0:Int),((qi a).length:Int))
theorem pX (n:Nat):∀ (b:List SS) (e:SS) (r:Int×Bool),zR n b e=some r->qb TP 231 [PV.sl (qi b),PV.str e] (rR r):=by
 intro b e r h;unfold zR at h;refine zN Tryz.call231 Tryz.func231 [1000000] ?_;conv=>whnf
 refine qX.fn [1000000] (S:=Int×Int) (fun(c,d)=>[(0,pT b),(1,pS e),(6,.p (.int .i64 ((qi b).length:Int))),(7,pI c),(8,pI d)]) (fun(c,d)=>[]) (B:=zp n b e) h (wk [] []) ?_;intro _ st h;obtain⟨c,d⟩:=st;unfold zp at h;conv=>whnf
 apply ifc h<;>intro m h
 ·conv=>whnf
  refine⟨by unfold gI; decide,?_⟩;conv=>whnf
  refine bq h fun _ g h=>⟨_,Codec.at_ cc g,?_⟩;conv=>whnf
  refine bq h fun _ f h=>⟨_,(FB n _ _ _ f),?_⟩;conv=>whnf
  apply ifc h<;>intro m h
  ·conv=>whnf
   exact⟨((kwr .i64 ((kwr .i64 (Int.fdiv (kwr .u64 (kwr .i64 (c+d))) (2 ^ (min (Int.toNat (1:Int)) IntKind.u64.bits))))+1)),d),h,wk [] []⟩
  conv=>whnf
  exact⟨(c,(kwr .i64 (Int.fdiv (kwr .u64 (kwr .i64 (c+d))) (2 ^ (min (Int.toNat (1:Int)) IntKind.u64.bits))))),h,wk [] []⟩
 conv=>whnf
 refine⟨id,id,?_⟩;conv=>whnf
 refine bq h fun _ l h=>⟨_,fun a=>Codec.at_ cc (qa l a),?_⟩;conv=>whnf
 iterate 6 refine⟨id,?_⟩
 conv=>whnf
 refine bq h fun _ k h=>⟨_,fun a=>Codec.at_ cc (qa k a),?_⟩;conv=>whnf
 refine⟨id,id,?_⟩;conv=>whnf
 refine bq h fun _ j h=>⟨_,fun a=>(sZ n _ _ (qa j a)),?_⟩;conv=>whnf
 refine⟨id,id,?_⟩;conv=>whnf
 refine bq h fun _ i h=>⟨_,fun a=>(sZ n _ _ (qa i a)),?_⟩;conv=>whnf
 refine⟨id,id,id,id,id,?_⟩;obtain rfl:=sj h;conv=>whnf
 try exact fin
abbrev Qw (r:Val):PV:=PV.agg (gM.cells r)
def bh (n d:Nat) (g232:Val->Option (Val)) (f:List SS) (i:Int) (u:Bool) (y:Int) (z:SS):LK (Int×List Val) (Val):=fun g (a,b)=>
 bif(decide (a<((((Val.rows (List.replicate d (Val.mk (0:Int) false (0:Int) ([]:SS) ([]:List Val) ([]:List SS)))).length):Nat):Int)))then(
 bnd (LL a) fun e=>
 chk (decide (e<(Val.rows (List.replicate d (Val.mk (0:Int) false (0:Int) ([]:SS) ([]:List Val) ([]:List SS)))).length)) (
 bnd (b[e]?) fun⟨j,k,l,m,o,p⟩=>
 bnd (g232 (Val.mk j k l m o p)) fun⟨q,s,t,v,w,x⟩=>
 bnd (LL a) fun c=>
 chk (decide (c<(Val.rows (List.replicate d (Val.mk (0:Int) false (0:Int) ([]:SS) ([]:List Val) ([]:List SS)))).length)) (
 bnd (b[c]?) fun⟨_,_,_,_,_,_⟩=>
 g ((kwr .i64 (a+1)),(b.set c (Val.mk q s t v w x))))))
 else(
 chk (decide ((qi f).length * 16<=140737488355328)) (
 some (Val.mk i u y z b f)))
def Zp (n:Nat) (g232:Val->Option (Val)) (c:Val):Option (Val):=
 match c with
 | ⟨d,e,f,g,a,i⟩=>
 bnd (LL ((Val.rows a).length:Int)) fun b=>
 chk (decide (b * 88<=140737488355328)) (
 chk (decide ((Val.rows a).length=(Val.rows (List.replicate b (Val.mk (0:Int) false (0:Int) ([]:SS) ([]:List Val) ([]:List SS)))).length)) (
 qo (bh n b g232 i d e f g) n ((0:Int),a)))
theorem HI (n:Nat) (g232:Val->Option (Val)) (g232_ok:∀ (a r:Val),g232 a=some r->qb TP 232 [PV.agg (gM.cells a)] (Qw r)):∀ (a r:Val),Zp n g232 a=some r->qb TP 232 [PV.agg (gM.cells a)] (Qw r):=by
 intro a r h;obtain⟨g,i,k,l,w,d⟩:=a;unfold Zp at h;refine zN Tryz.call232 Tryz.func232 [28,10000008,1000000] ?_;conv=>whnf
 refine bq h fun b y h=>?_;have c:=gK y;conv=>whnf
 obtain⟨m,h⟩:=qg h;refine⟨b,Val.rows (List.replicate b (Val.mk (0:Int) false (0:Int) ([]:SS) ([]:List Val) ([]:List SS))),⟨c,c,kod m,xj m (by decide),Codec.madeN gM (Val.mk (0:Int) false (0:Int) ([]:SS) ([]:List Val) ([]:List SS)) b (by try exact fin),rfl,by decide,rfl⟩,?_⟩;conv=>whnf
 obtain⟨H,h⟩:=qg h;refine⟨⟨rfl,kod H,Codec.wide gM w⟩,?_⟩;conv=>whnf
 refine qX.fn [28,10000008,1000000] (S:=Int×List Val) (fun(f,e)=>[(1,.ptr 0 0),(2,.ptr 1 0),(3,.vsl 2 ((Val.rows (List.replicate b (Val.mk (0:Int) false (0:Int) ([]:SS) ([]:List Val) ([]:List SS)))).length)),(14,.p (.int .i64 ((((Val.rows (List.replicate b (Val.mk (0:Int) false (0:Int) ([]:SS) ([]:List Val) ([]:List SS)))).length):Nat):Int))),(15,pI f)]) (fun(f,e)=>[.box 28 [pI g,pB i,pI k,pS l,pV w,pT d],.box 28 [zq0,pB false,zq0,zq1,zq2,zq2],.vec 28 6 (Val.rows e)]) (B:=bh n b g232 d g i k l) h (wk [0,1,2] []) ?_;intro _ st h;obtain⟨f,e⟩:=st;unfold bh at h;conv=>whnf
 apply ifc h<;>intro _ h
 ·conv=>whnf
  refine bq h fun I F h=>?_;have c:=gK F;conv=>whnf
  obtain⟨E,h⟩:=qg h;refine⟨I,⟨c,kod E⟩,?_⟩;conv=>whnf
  refine bq h fun⟨_,_,_,_,_,_⟩ D h=>⟨_,⟨rfl,Codec.getN gM D⟩,?_⟩;conv=>whnf
  refine bq h fun⟨o,q,s,t,u,v⟩ C h=>⟨_,(g232_ok _ _ C),?_⟩;conv=>whnf
  refine bq h fun j A h=>?_;have c:=gK A;conv=>whnf
  obtain⟨z,h⟩:=qg h;refine⟨j,⟨c,kod z⟩,?_⟩;conv=>whnf
  refine bq h fun⟨_,_,_,_,_,_⟩ x h=>⟨_,⟨rfl,Codec.getN gM x,rfl⟩,?_⟩;conv=>whnf
  refine⟨_,Codec.setN gM e j (Val.mk o q s t u v),?_⟩;conv=>whnf
  exact⟨((kwr .i64 (f+1)),(e.set j (Val.mk o q s t u v))),h,wk [0,1,2] []⟩
 conv=>whnf
 obtain⟨G,h⟩:=qg h;refine Zd (LA d (kod G)) [] [] ?_;rintro _ _ ⟨rfl,rfl⟩;refine⟨.tsl 3 (qi d),[.box 28 [pI g,pB i,pI k,pS l,.vsl 2 ((Val.rows (List.replicate b (Val.mk (0:Int) false (0:Int) ([]:SS) ([]:List Val) ([]:List SS)))).length),pT d],.box 28 [zq0,pB false,zq0,zq1,zq2,zq2],.vec 28 6 (Val.rows e),.tail 9 1 (qi d).length],rfl,rfl,?_⟩;obtain rfl:=sj h;conv=>whnf
 try exact fin
def fu:Nat->Val->Option (Val)
 | 0=>fun _=>none
 | n+1=>Zp n (fu n)
theorem HZ (n:Nat):(∀ (a r:Val),fu n a=some r->qb TP 232 [PV.agg (gM.cells a)] (Qw r)):=by
 induction n with
 | zero=>exact(by intros; rename_i h; cases h)
 | succ n ih=>
  have hg232:=ih;exact HI n (fu n) hg232
theorem Gv (n:Nat):∀ (a r:Val),fu n a=some r->qb TP 232 [PV.agg (gM.cells a)] (Qw r):=(HZ n)
abbrev Tl (r:Val×Bool):PV:=PV.tup [PV.agg (gM.cells r.1),PV.bool r.2]
def sM (n:Nat) (c:Val) (u:SS):Option (Val×Bool):=
 match c with
 | ⟨d,_,_,_,a,t⟩=>
 bnd (zR n t u) fun⟨b,v⟩=>
 bif(bif(bif(!v)then true else(d != 5))then true else(decide (b≥((Val.rows a).length:Int))))then(
 some (Val.mk (0:Int) false (0:Int) ([]:SS) ([]:List Val) ([]:List SS),false))
 else(
 bnd (idx a b) fun⟨e,f,g,i,j,k⟩=>
 bnd (fu n (Val.mk e f g i j k)) fun⟨l,m,o,p,q,s⟩=>
 some (Val.mk l m o p q s,true))
theorem PN (n:Nat):∀ (a:Val) (b:SS) (r:Val×Bool),sM n a b=some r->qb TP 183 [PV.agg (gM.cells a),PV.str b] (Tl r):=by
 intro a b r h;obtain⟨_,_,_,_,_,_⟩:=a;unfold sM at h;refine zN Tryz.call183 Tryz.func183 [1000000] ?_;conv=>whnf
 refine bq h fun⟨_,_⟩ e h=>⟨_,(pX n _ _ _ e),?_⟩;conv=>whnf
 iterate 8 refine⟨id,?_⟩
 conv=>whnf
 apply ifc h<;>intro _ h
 ·obtain rfl:=sj h
  conv=>whnf
  try exact fin
 conv=>whnf
 refine bq h fun⟨_,_,_,_,_,_⟩ d h=>⟨_,Codec.at_ gM d,?_⟩;conv=>whnf
 refine bq h fun⟨_,_,_,_,_,_⟩ c h=>⟨_,(Gv n _ _ c),?_⟩;obtain rfl:=sj h;conv=>whnf
 try exact fin
abbrev MI (r:Val×Bool):PV:=PV.tup [PV.agg (gM.cells r.1),PV.bool r.2]
def pJ (n:Nat) (b:qe) (c:Val):Option (Val×Bool):=
 match b,c with
 | ⟨a,o,⟨u,v,w,x,y,z⟩,_,_⟩,⟨d,e,f,g,i,j⟩=>
 bif(a==1)then(
 some (Val.mk u v w x y z,true))
 else(
 bif(a==3)then(
 bnd (sM n (Val.mk d e f g i j) o) fun⟨⟨k,l,m,p,q,s⟩,t⟩=>
 some (Val.mk k l m p q s,t))
 else(
 some (Val.mk (0:Int) false (0:Int) ([]:SS) ([]:List Val) ([]:List SS),false)))
theorem HP (n:Nat):∀ (a:qe) (b:Val) (r:Val×Bool),pJ n a b=some r->qb TP 111 [PV.agg (zX.cells a),PV.agg (gM.cells b)] (MI r):=by
 intro a b r h;obtain⟨_,_,⟨_,_,_,_,_,_⟩,_,_⟩:=a;obtain⟨_,_,_,_,_,_⟩:=b;unfold pJ at h;refine zN Tryz.call111 Tryz.func111 [1000000] ?_;conv=>whnf
 apply ifc h<;>intro d h
 ·obtain rfl:=sj h
  conv=>whnf
  try exact fin
 conv=>whnf
 apply ifc h<;>intro d h
 ·conv=>whnf
  refine bq h fun⟨⟨_,_,_,_,_,_⟩,_⟩ c h=>⟨_,(PN n _ _ _ c),?_⟩;obtain rfl:=sj h;conv=>whnf
  try exact fin
 obtain rfl:=sj h;conv=>whnf
 try exact fin
abbrev la (r:Int):PV:=PV.int .u64 r
def Ff (n:Nat) (a:Int):Option (Int):=
 bif(decide (a<0))then(
 some (kwr .u64 (0 - (kwr .u64 a))))
 else(
 some (kwr .u64 a))
theorem SG (n:Nat):∀ (a r:Int),Ff n a=some r->qb TP 254 [PV.int .i64 a] (la r):=by
 intro a r h;unfold Ff at h;refine zN Tryz.call254 Tryz.func254 [1000000] ?_;conv=>whnf
 apply ifc h<;>intro _ h
 ·obtain rfl:=sj h
  conv=>whnf
  try exact fin
 obtain rfl:=sj h;conv=>whnf
 try exact fin
abbrev iZ (r:SS):PV:=PV.str r
def pQ (n:Nat):Int×SS->Option SS:=fun(c,b)=>
 bnd (LL c) fun a=>
 chk (decide (a<20)) (
 chk (decide (a+(20 - a)<=b.length)) (
 some ((b.drop a).take (20 - a))))
def pR (n:Nat) (j:Int):(Int×Int×SS->Option SS)->Int×Int×SS->Option SS:=fun i (b,f,c)=>
 bnd (LL (Int.tmod f (10:Int))) fun g=>
 chk (decide (g<10)) (
 bnd (([(48:UInt8),(49:UInt8),(50:UInt8),(51:UInt8),(52:UInt8),(53:UInt8),(54:UInt8),(55:UInt8),(56:UInt8),(57:UInt8)]:SS)[g]?) fun l=>
 bnd (LL (kwr .i64 (b - 1))) fun a=>
 chk (decide (a<20)) (
 bnd (u8I ((l.toNat:Nat):Int)) fun d=>
 chk (decide (a<c.length)) (
 bif(decide (f<10))then(
 bif(decide (j<0))then(
 bnd (LL (kwr .i64 ((kwr .i64 (b - 1)) - 1))) fun e=>
 chk (decide (e<20)) (
 bnd (u8I (45:Int)) fun k=>
 chk (decide (e<(c.set a d).length)) (
 pQ n ((kwr .i64 ((kwr .i64 (b - 1)) - 1)),((c.set a d).set e k)))))
 else(
 pQ n ((kwr .i64 (b - 1)),(c.set a d))))
 else(
 i ((kwr .i64 (b - 1)),(kwr .u64 (Int.tdiv f (10:Int))),(c.set a d))))))
def Qd (n:Nat) (a:Int):Option SS:=
 bnd (Ff n a) fun b=>
 qo (pR n a) n ((20:Int),b,(List.replicate 20 0:SS))
theorem Ud (n:Nat):∀ (d:Int) (r:SS),Qd n d=some r->qb TP 233 [PV.int .i64 d] (iZ r):=by
 intro d r h;unfold Qd at h;refine zN Tryz.call233 Tryz.func233 [10000003,10000004,1000000] ?_;conv=>whnf
 refine⟨rfl,qmj rfl,?_⟩;conv=>whnf
 refine⟨(List.replicate 10 0:SS),rfl,?_⟩;conv=>whnf
 refine⟨([(48:UInt8),(49:UInt8),(50:UInt8),(51:UInt8),(52:UInt8),(53:UInt8),(54:UInt8),(55:UInt8),(56:UInt8),(57:UInt8)]:SS),⟨rfl,rfl,rfl,rfl,rfl⟩,?_⟩;conv=>whnf
 refine⟨(List.replicate 20 0:SS),rfl,?_⟩;conv=>whnf
 refine bq h fun _ w h=>⟨_,(SG n _ _ w),?_⟩;conv=>whnf
 refine qX.fn [10000003,10000004,1000000] (S:=Int×Int×SS) (fun(a,f,b)=>[(0,pI d),(3,.eptr 0 1 0 0),(4,.eptr 1 1 0 0),(5,pI a),(6,.p (.int .u64 f))]) (fun(a,f,b)=>[.bv ([(48:UInt8),(49:UInt8),(50:UInt8),(51:UInt8),(52:UInt8),(53:UInt8),(54:UInt8),(55:UInt8),(56:UInt8),(57:UInt8)]:SS),.bv b]) (B:=pR n d) h (wk [0,1] []) ?_;intro _ st h;obtain⟨a,f,b⟩:=st;unfold pR at h;conv=>whnf
 refine⟨by unfold gI; decide,?_⟩;conv=>whnf
 refine bq h fun H v h=>?_;have c:=gK v;conv=>whnf
 obtain⟨u,h⟩:=qg h;refine⟨H,⟨rfl,c,kod u⟩,?_⟩;conv=>whnf
 refine bq h fun _ t h=>⟨_,⟨rfl,rfl,t⟩,?_⟩;conv=>whnf
 refine bq h fun g s h=>?_;have c:=gK s;conv=>whnf
 obtain⟨q,h⟩:=qg h;refine⟨g,⟨rfl,c,kod q⟩,?_⟩;conv=>whnf
 refine bq h fun j E h=>?_;have hb:=vQ E;conv=>whnf
 obtain⟨D,h⟩:=qg h;refine⟨_,_,⟨rfl,rfl,kod D,hb,rfl⟩,?_⟩;conv=>whnf
 apply ifc h<;>intro F h
 ·conv=>whnf
  refine cY.cut (S:=Int×SS) (fun(i,e)=>[(4,.eptr 0 1 0 0),(5,pI i)]) (fun(i,e)=>[.bv e]) (pQ n) (r:=r) ?_ ?_
  ·intro st h
   obtain⟨i,e⟩:=st;unfold pQ at h;conv=>whnf
   refine bq h fun l x h=>⟨_,gK x,?_⟩;conv=>whnf
   obtain⟨k,h⟩:=qg h;refine⟨⟨rfl,Nat.le_of_lt (kod k),Nat.le_refl _,kod k⟩,?_⟩;conv=>whnf
   obtain⟨o,h⟩:=qg h;refine⟨(kod o:l+(20 - l)<=e.length),?_⟩;obtain rfl:=sj h;conv=>whnf
   try exact fin
  conv=>whnf
  apply ifc h<;>intro F h
  ·conv=>whnf
   refine bq h fun m C h=>?_;have c:=gK C;conv=>whnf
   obtain⟨A,h⟩:=qg h;refine⟨m,⟨rfl,c,kod A⟩,?_⟩;conv=>whnf
   refine bq h fun G z h=>?_;have hb:=vQ z;conv=>whnf
   obtain⟨y,h⟩:=qg h;refine⟨_,_,⟨rfl,rfl,kod y,hb,rfl⟩,?_⟩;conv=>whnf
   exact⟨((kwr .i64 ((kwr .i64 (a - 1)) - 1)),((b.set g j).set m G)),h,wk [1] []⟩
  conv=>whnf
  exact⟨((kwr .i64 (a - 1)),(b.set g j)),h,wk [1] []⟩
 conv=>whnf
 refine⟨by unfold gI; decide,?_⟩;conv=>whnf
 exact⟨((kwr .i64 (a - 1)),(kwr .u64 (Int.tdiv f (10:Int))),(b.set g j)),h,wk [0,1] []⟩
abbrev lb (r:SS):PV:=PV.str r
def Vw (n:Nat) (a:SS):Option SS:=
 bnd (nP n a) fun b=>
 bif b then(
 some a)
 else(
 bnd (bA n a) fun c=>
 some c)
theorem SH (n:Nat):∀ (a r:SS),Vw n a=some r->qb TP 234 [PV.str a] (lb r):=by
 intro a r h;unfold Vw at h;refine zN Tryz.call234 Tryz.func234 [1000000] ?_;conv=>whnf
 refine bq h fun _ c h=>⟨_,(Vg n _ _ c),?_⟩;conv=>whnf
 apply ifc h<;>intro _ h
 ·obtain rfl:=sj h
  conv=>whnf
  try exact fin
 conv=>whnf
 refine bq h fun _ b h=>⟨_,(Xc n _ _ b),?_⟩;obtain rfl:=sj h;conv=>whnf
 try exact fin
abbrev Zw (r:SS):PV:=PV.str r
def mT (n:Nat) (a:List SS) (c:List SS×Int->Option SS) (d:Int):SS->Option SS:=fun b=>
 chk (decide ((qi (a++[b])).length * 16<=140737488355328)) (
 c ((a++[b]),(kwr .i64 (d+1))))
abbrev qp5:Type:=Val->Option SS
def mU (n:Nat) (j:List Val) (g184:qp5) (i:Int) (k:List SS):(List SS×Int->Option SS)->List SS×Int->Option SS:=fun g (b,a)=>
 bif(decide (a<((Val.rows j).length:Int)))then(
 bnd (idx j a) fun⟨l,m,o,p,q,s⟩=>
 bnd (g184 (Val.mk l m o p q s)) fun c=>
 bif(bif(i==5)then(decide (a<((qi k).length:Int)))else false)then(
 bnd (idx k a) fun t=>
 bnd (Vw n t) fun d=>
 chk (decide (((d.length+([58,32]:SS).length:Nat):Int)<=xr)) (
 chk (decide ((((d++([58,32]:SS)).length+c.length:Nat):Int)<=xr)) (
 mT n b g a ((d++([58,32]:SS))++c))))
 else(
 mT n b g a c))
 else(
 bif(i==5)then(
 bnd (Qv n b ([44,32]:SS)) fun e=>
 chk (decide (((([123]:SS).length+e.length:Nat):Int)<=xr)) (
 chk (decide ((((([123]:SS)++e).length+([125]:SS).length:Nat):Int)<=xr)) (
 some ((([123]:SS)++e)++([125]:SS)))))
 else(
 bnd (Qv n b ([44,32]:SS)) fun f=>
 chk (decide (((([91]:SS).length+f.length:Nat):Int)<=xr)) (
 chk (decide ((((([91]:SS)++f).length+([93]:SS).length:Nat):Int)<=xr)) (
 some ((([91]:SS)++f)++([93]:SS))))))
def Qt (n:Nat) (c:List Val) (g184:qp5) (a:Int) (d:List SS):Bool->Option SS:=fun b=>
 bif b then(
 qo (mU n c g184 a d) n (([]:List _),(0:Int)))
 else(
 some ([110,117,108,108]:SS))
def Xv (n:Nat) (g184:qp5) (g:Val):Option SS:=
 match g with
 | ⟨a,i,b,j,d,e⟩=>
 bif(a==1)then(
 bif i then(
 some ([116,114,117,101]:SS))
 else(
 some ([102,97,108,115,101]:SS)))
 else(
 bif(a==2)then(
 bnd (Qd n b) fun k=>
 some k)
 else(
 bif(a==3)then(
 bnd (bA n j) fun l=>
 some l)
 else(
 bif(a==6)then(
 bnd (Qd n b) fun f=>
 chk (decide (((([35,110]:SS).length+f.length:Nat):Int)<=xr)) (
 some (([35,110]:SS)++f)))
 else(
 bif(a==7)then(
 bnd (Qd n b) fun c=>
 chk (decide (((([35,101]:SS).length+c.length:Nat):Int)<=xr)) (
 some (([35,101]:SS)++c)))
 else(
 bif(a==4)then(
 Qt n d g184 a e (a==4))
 else(
 Qt n d g184 a e (a==5)))))))
theorem Ma (n:Nat) (g184:qp5) (g184_ok:∀ (e:Val) (r:SS),g184 e=some r->qb TP 184 [PV.agg (gM.cells e)] (Zw r)):∀ (e:Val) (r:SS),Xv n g184 e=some r->qb TP 184 [PV.agg (gM.cells e)] (Zw r):=by
 intro e r h;obtain⟨f,k,o,q,d,i⟩:=e;unfold Xv at h;refine zN Tryz.call184 Tryz.func184 [1000000] ?_;conv=>whnf
 apply ifc h<;>intro b h
 ·conv=>whnf
  apply ifc h<;>intro b h
  ·obtain rfl:=sj h
   conv=>whnf
   try exact fin
  obtain rfl:=sj h;conv=>whnf
  try exact fin
 conv=>whnf
 apply ifc h<;>intro b h
 ·conv=>whnf
  refine bq h fun _ v h=>⟨_,(Ud n _ _ v),?_⟩;obtain rfl:=sj h;conv=>whnf
  try exact fin
 conv=>whnf
 apply ifc h<;>intro b h
 ·conv=>whnf
  refine bq h fun _ H h=>⟨_,(Xc n _ _ H),?_⟩;obtain rfl:=sj h;conv=>whnf
  try exact fin
 conv=>whnf
 apply ifc h<;>intro b h
 ·conv=>whnf
  refine bq h fun Q J h=>⟨_,(Ud n _ _ J),?_⟩;conv=>whnf
  obtain⟨I,h⟩:=qg h;refine⟨(kod I:((([35,110]:SS).length+Q.length:Nat):Int)<=xr),?_⟩;obtain rfl:=sj h;conv=>whnf
  try exact fin
 conv=>whnf
 apply ifc h<;>intro b h
 ·conv=>whnf
  refine bq h fun P L h=>⟨_,(Ud n _ _ L),?_⟩;conv=>whnf
  obtain⟨K,h⟩:=qg h;refine⟨(kod K:((([35,101]:SS).length+P.length:Nat):Int)<=xr),?_⟩;obtain rfl:=sj h;conv=>whnf
  try exact fin
 conv=>whnf
 refine cY.cut (S:=Bool) (fun j=>[(1,.ptr 0 0),(35,pB j)]) (fun j=>[.box 28 [pI f,pB k,pI o,pS q,pV d,pT i]]) (Qt n d g184 f i) (r:=r) ?_ ?_
 ·intro j h
  unfold Qt at h;conv=>whnf
  apply ifc h<;>intro b h
  ·conv=>whnf
   refine qX.fn [1000000] (S:=List SS×Int) (fun(a,g)=>[(1,.ptr 0 0),(3,.tsl 1 (qi a)),(39,pV d),(40,.p (.int .i64 ((Val.rows d).length:Int))),(41,pI g)]) (fun(a,g)=>[.box 28 [pI f,pB k,pI o,pS q,pV d,pT i],.tail 9 1 (qi a).length]) (B:=mU n d g184 f i) h (wk [0,0] [1]) ?_;intro O st h;obtain⟨a,g⟩:=st;unfold mU at h;conv=>whnf
   apply ifc h<;>intro b h
   ·conv=>whnf
    refine bq h fun⟨_,_,_,_,_,_⟩ z h=>⟨_,Codec.at_ gM z,?_⟩;(conv=>whnf);refine bq h fun l y h=>⟨_,(g184_ok _ _ y),?_⟩;(conv=>whnf);refine cY.cut (S:=SS) (fun c=>[(1,.ptr 0 0),(3,.tsl 1 (qi a)),(6,pS c),(39,pV d),(40,.p (.int .i64 ((Val.rows d).length:Int))),(41,pI g)]) (fun c=>[.box 28 [pI f,pB k,pI o,pS q,pV d,pT i],.tail 9 1 (qi a).length]) (mT n a O g) (r:=r) ?_ ?_
    ·intro c h
     unfold mT at h;(conv=>whnf);refine⟨Codec.one cc [c],qi [c],.inl rfl,?_⟩;(conv=>whnf);rw[show qi a++qi [c]=qi (a++[c])from Codec.append cc a [c]];(conv=>whnf);obtain⟨s,h⟩:=qg h;refine⟨⟨Codec.wide cc (a++[c]),kod s,xj s (by decide)⟩,?_⟩;(conv=>whnf);refine⟨⟨rfl,rfl,rfl⟩,?_⟩;(conv=>whnf);exact⟨((a++[c]),(kwr .i64 (g+1))),h,wk [0,2] []⟩
    (conv=>whnf);refine⟨id,?_⟩
    (conv=>whnf);refine⟨id,id,id,id,?_⟩
    (conv=>whnf);apply ifc h<;>intro b h
    ·conv=>whnf
     refine bq h fun _ x h=>⟨_,Codec.at_ cc x,?_⟩;(conv=>whnf);refine bq h fun m w h=>⟨_,(SH n _ _ w),?_⟩;(conv=>whnf);obtain⟨N,h⟩:=qg h;refine⟨(kod N:((m.length+([58,32]:SS).length:Nat):Int)<=xr),?_⟩;(conv=>whnf);obtain⟨M,h⟩:=qg h;refine⟨(kod M:(((m++([58,32]:SS)).length+l.length:Nat):Int)<=xr),?_⟩;(conv=>whnf);exact⟨((m++([58,32]:SS))++l),h,wk [0,1] []⟩
    (conv=>whnf);exact⟨l,h,wk [0,1] []⟩
   conv=>whnf
   apply ifc h<;>intro b h
   ·conv=>whnf
    refine bq h fun t D h=>⟨_,(Vx n _ _ _ D),?_⟩;(conv=>whnf);obtain⟨C,h⟩:=qg h;refine⟨(kod C:((([123]:SS).length+t.length:Nat):Int)<=xr),?_⟩;(conv=>whnf);obtain⟨A,h⟩:=qg h;refine⟨(kod A:(((([123]:SS)++t).length+([125]:SS).length:Nat):Int)<=xr),?_⟩;obtain rfl:=sj h;conv=>whnf
    try exact fin
   conv=>whnf
   refine bq h fun u G h=>⟨_,(Vx n _ _ _ G),?_⟩;conv=>whnf
   obtain⟨F,h⟩:=qg h;refine⟨(kod F:((([91]:SS).length+u.length:Nat):Int)<=xr),?_⟩;conv=>whnf
   obtain⟨E,h⟩:=qg h;refine⟨(kod E:(((([91]:SS)++u).length+([93]:SS).length:Nat):Int)<=xr),?_⟩;obtain rfl:=sj h;conv=>whnf
   try exact fin
  obtain rfl:=sj h;conv=>whnf
  try exact fin
 conv=>whnf
 apply ifc h<;>intro b h
 ·conv=>whnf
  exact⟨(f==4),h,wk [0] []⟩
 conv=>whnf
 exact⟨(f==5),h,wk [0] []⟩
def bS:Nat->Val->Option SS
 | 0=>fun _=>none
 | n+1=>Xv n (bS n)
theorem Mx (n:Nat):(∀ (a:Val) (r:SS),bS n a=some r->qb TP 184 [PV.agg (gM.cells a)] (Zw r)):=by
 induction n with
 | zero=>exact(by intros; rename_i h; cases h)
 | succ n ih=>
  have hg184:=ih;exact Ma n (bS n) hg184
theorem PM (n:Nat):∀ (a:Val) (r:SS),bS n a=some r->qb TP 184 [PV.agg (gM.cells a)] (Zw r):=(Mx n)
abbrev MJ (r:SS):PV:=PV.str r
def bP (n:Nat) (e f:SS) (d:Val):Option SS:=
 match d with
 | ⟨g,i,j,k,l,m⟩=>
 bnd (dt n e) fun a=>
 chk (decide (((([73,58]:SS).length+a.length:Nat):Int)<=xr)) (
 chk (decide ((((([73,58]:SS)++a).length+([46]:SS).length:Nat):Int)<=xr)) (
 bnd (dt n f) fun b=>
 chk (decide (((((([73,58]:SS)++a)++([46]:SS)).length+b.length:Nat):Int)<=xr)) (
 chk (decide ((((((([73,58]:SS)++a)++([46]:SS))++b).length+([61]:SS).length:Nat):Int)<=xr)) (
 bnd (bS n (Val.mk g i j k l m)) fun c=>
 chk (decide (((((((([73,58]:SS)++a)++([46]:SS))++b)++([61]:SS)).length+c.length:Nat):Int)<=xr)) (
 some (((((([73,58]:SS)++a)++([46]:SS))++b)++([61]:SS))++c))))))
theorem UC (n:Nat):∀ (c e:SS) (b:Val) (r:SS),bP n c e b=some r->qb TP 112 [PV.str c,PV.str e,PV.agg (gM.cells b)] (MJ r):=by
 intro c e b r h;obtain⟨_,_,_,_,_,_⟩:=b;unfold bP at h;refine zN Tryz.call112 Tryz.func112 [1000000] ?_;conv=>whnf
 refine bq h fun a o h=>⟨_,(mV n _ _ o),?_⟩;conv=>whnf
 obtain⟨m,h⟩:=qg h;refine⟨(kod m:((([73,58]:SS).length+a.length:Nat):Int)<=xr),?_⟩;conv=>whnf
 obtain⟨l,h⟩:=qg h;refine⟨(kod l:(((([73,58]:SS)++a).length+([46]:SS).length:Nat):Int)<=xr),?_⟩;conv=>whnf
 refine bq h fun d k h=>⟨_,(mV n _ _ k),?_⟩;conv=>whnf
 obtain⟨j,h⟩:=qg h;refine⟨(kod j:((((([73,58]:SS)++a)++([46]:SS)).length+d.length:Nat):Int)<=xr),?_⟩;conv=>whnf
 obtain⟨i,h⟩:=qg h;refine⟨(kod i:(((((([73,58]:SS)++a)++([46]:SS))++d).length+([61]:SS).length:Nat):Int)<=xr),?_⟩;conv=>whnf
 refine bq h fun p g h=>⟨_,(PM n _ _ g),?_⟩;conv=>whnf
 obtain⟨f,h⟩:=qg h;refine⟨(kod f:((((((([73,58]:SS)++a)++([46]:SS))++d)++([61]:SS)).length+p.length:Nat):Int)<=xr),?_⟩;obtain rfl:=sj h;conv=>whnf
 try exact fin
abbrev Re (r:SS):PV:=PV.str r
def ba (n:Nat) (d:List qe) (F:Int) (G:Bool) (H:Int) (I:SS) (J:List Val) (f b B:List SS):(Int->Option SS)->Int->Option SS:=fun e a=>
 bif(decide (a<((qe.rows d).length:Int)))then(
 bnd (idx d a) fun⟨g,i,⟨j,k,l,m,o,p⟩,q,s⟩=>
 bnd (pJ n (qe.mk g i (Val.mk j k l m o p) q s) (Val.mk F G H I J f)) fun⟨⟨t,u,v,w,x,y⟩,z⟩=>
 bif z then(
 bnd (idx b (0:Int)) fun A=>
 bnd (idx B a) fun C=>
 bnd (bP n A C (Val.mk t u v w x y)) fun D=>
 some D)
 else(
 e (kwr .i64 (a+1))))
 else(
 bnd (idx b (0:Int)) fun E=>
 bnd (dt n E) fun c=>
 chk (decide (((([76,58]:SS).length+c.length:Nat):Int)<=xr)) (
 some (([76,58]:SS)++c)))
def nN (n:Nat) (b:qt) (c:Val):Option SS:=
 match b,c with
 | ⟨_,a,e,f⟩,⟨g,i,j,k,l,d⟩=>
 bif(((qi a).length:Int)==0)then(
 some ([65]:SS))
 else(
 qo (ba n f g i j k l d a e) n (0:Int))
theorem Mo (n:Nat):∀ (a:qt) (b:Val) (r:SS),nN n a b=some r->qb TP 58 [PV.agg (gO.cells a),PV.agg (gM.cells b)] (Re r):=by
 intro a b r h;obtain⟨z,g,i,d⟩:=a;obtain⟨j,k,l,m,o,f⟩:=b;unfold nN at h;refine zN Tryz.call58 Tryz.func58 [1000000] ?_;conv=>whnf
 apply ifc h<;>intro e h
 ·obtain rfl:=sj h
  conv=>whnf
  try exact fin
 conv=>whnf
 refine qX.fn [1000000] (S:=Int) (fun c=>[(2,.ptr 0 0),(3,.ptr 1 0),(14,pE d),(15,.p (.int .i64 ((qe.rows d).length:Int))),(16,pI c)]) (fun c=>[.box 62 [pS z,pT g,pT i,pE d],.box 28 [pI j,pB k,pI l,pS m,pV o,pT f]]) (B:=ba n d j k l m o f g i) h (wk [0,1] []) ?_;intro _ c h;unfold ba at h;conv=>whnf
 apply ifc h<;>intro e h
 ·conv=>whnf
  refine bq h fun⟨_,_,⟨_,_,_,_,_,_⟩,_,_⟩ v h=>⟨_,Codec.at_ zX v,?_⟩;conv=>whnf
  refine bq h fun⟨⟨_,_,_,_,_,_⟩,_⟩ u h=>⟨_,(HP n _ _ _ u),?_⟩;conv=>whnf
  apply ifc h<;>intro e h
  ·conv=>whnf
   refine bq h fun _ t h=>⟨_,Codec.at_ cc t,?_⟩;conv=>whnf
   refine bq h fun _ s h=>⟨_,Codec.at_ cc s,?_⟩;conv=>whnf
   refine bq h fun _ q h=>⟨_,(UC n _ _ _ _ q),?_⟩;obtain rfl:=sj h;conv=>whnf
   try exact fin
  conv=>whnf
  exact⟨(kwr .i64 (c+1)),h,wk [0,1] []⟩
 conv=>whnf
 refine bq h fun _ y h=>⟨_,Codec.at_ cc y,?_⟩;conv=>whnf
 refine bq h fun A x h=>⟨_,(mV n _ _ x),?_⟩;conv=>whnf
 obtain⟨w,h⟩:=qg h;refine⟨(kod w:((([76,58]:SS).length+A.length:Nat):Int)<=xr),?_⟩;obtain rfl:=sj h;conv=>whnf
 try exact fin
end W
end
