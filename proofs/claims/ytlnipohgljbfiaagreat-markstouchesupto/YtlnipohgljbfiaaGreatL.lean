/- A part of the proof: contracts, printed by program. -/
import Derived.Test.YtlnipohgljbfiaaGreatB
import Derived.Test.YtlnipohgljbfiaaGreatC
import Derived.Test.YtlnipohgljbfiaaGreatK
set_option linter.unusedVariables false
set_option linter.unusedSimpArgs false
set_option linter.unnecessarySimpa false
set_option linter.deprecated false
set_option linter.unusedSectionVars false
set_option linter.constructorNameAsVariable false
open Go.IntKind renaming wrap->kwr,bits->kbt
section
set_option maxRecDepth 100000
set_option maxHeartbeats 4000000
open Go Go.Proofs Ax
namespace W
abbrev iM (r:Bool):PV:=PV.bool r
def tW (n:Nat) (a:SS) (b:Int):Option (Bool):=
 bnd (qD (decide (b<((a.length:Nat):Int))) (idx a b)) fun c=>
 bnd (qD (bif(decide (b<((a.length:Nat):Int)))then(decide (((c.toNat:Nat):Int)≥128))else false) (idx a b)) fun d=>
 some (bif(bif(decide (b<((a.length:Nat):Int)))then(decide (((c.toNat:Nat):Int)≥128))else false)then(decide (((d.toNat:Nat):Int)<192))else false)
theorem Ub (n:Nat):∀ (b:SS) (c:Int) (r:Bool),tW n b c=some r->qb TP 248 [PV.str b,PV.int .i64 c] (iM r):=by
 intro b c r h;unfold tW at h;refine zN Tryz.call248 Tryz.func248 [1000000] ?_;conv=>whnf
 refine⟨id,id,?_⟩;conv=>whnf
 refine bq h fun _ e h=>⟨_,fun a=>bX (qa e a),?_⟩;conv=>whnf
 refine⟨id,id,id,id,?_⟩;conv=>whnf
 refine bq h fun _ d h=>⟨_,fun a=>bX (qa d a),?_⟩;conv=>whnf
 refine⟨id,id,?_⟩;obtain rfl:=sj h;conv=>whnf
 try exact fin
abbrev iL (r:Int):PV:=PV.int .i64 r
def Vk (n:Nat) (b:SS) (c:Int):Option (Int):=
 bif(decide (c≥((b.length:Nat):Int)))then(
 some (0:Int))
 else(
 bnd (idx b c) fun a=>
 bif(decide (((a.toNat:Nat):Int)<128))then(
 some (1:Int))
 else(
 bnd (qD (!(bif(decide (((a.toNat:Nat):Int)<194))then true else(decide (((a.toNat:Nat):Int)>244)))) (tW n b (kwr .i64 (c+1)))) fun e=>
 bif(bif(bif(decide (((a.toNat:Nat):Int)<194))then true else(decide (((a.toNat:Nat):Int)>244)))then true else(!e))then(
 some (0:Int))
 else(
 bif(decide (((a.toNat:Nat):Int)<224))then(
 some (2:Int))
 else(
 bnd (idx b (kwr .i64 (c+1))) fun d=>
 bnd (tW n b (kwr .i64 (c+2))) fun f=>
 bif(bif(bif(!f)then true else(bif(((a.toNat:Nat):Int)==224)then(decide (((d.toNat:Nat):Int)<160))else false))then true else(bif(((a.toNat:Nat):Int)==237)then(decide (((d.toNat:Nat):Int)≥160))else false))then(
 some (0:Int))
 else(
 bif(decide (((a.toNat:Nat):Int)<240))then(
 some (3:Int))
 else(
 bnd (tW n b (kwr .i64 (c+3))) fun g=>
 bif(bif(bif(!g)then true else(bif(((a.toNat:Nat):Int)==240)then(decide (((d.toNat:Nat):Int)<144))else false))then true else(bif(((a.toNat:Nat):Int)==244)then(decide (((d.toNat:Nat):Int)≥144))else false))then(
 some (0:Int))
 else(
 some (4:Int))))))))
theorem Sn (n:Nat):∀ (b:SS) (c r:Int),Vk n b c=some r->qb TP 216 [PV.str b,PV.int .i64 c] (iL r):=by
 intro b c r h;unfold Vk at h;refine zN Tryz.call216 Tryz.func216 [1000000] ?_;conv=>whnf
 apply ifc h<;>intro a h
 ·obtain rfl:=sj h
  conv=>whnf
  try exact fin
 conv=>whnf
 refine bq h fun _ i h=>⟨_,bX i,?_⟩;conv=>whnf
 apply ifc h<;>intro a h
 ·obtain rfl:=sj h
  conv=>whnf
  try exact fin
 conv=>whnf
 refine⟨id,id,id,id,id,?_⟩;conv=>whnf
 refine bq h fun _ g h=>⟨_,fun j=>(Ub n _ _ _ (qa g j)),?_⟩;conv=>whnf
 refine⟨id,id,?_⟩;conv=>whnf
 apply ifc h<;>intro a h
 ·obtain rfl:=sj h
  conv=>whnf
  try exact fin
 conv=>whnf
 apply ifc h<;>intro a h
 ·obtain rfl:=sj h
  conv=>whnf
  try exact fin
 conv=>whnf
 refine bq h fun _ f h=>⟨_,bX f,?_⟩;conv=>whnf
 refine bq h fun _ e h=>⟨_,(Ub n _ _ _ e),?_⟩;conv=>whnf
 iterate 12 refine⟨id,?_⟩
 conv=>whnf
 apply ifc h<;>intro a h
 ·obtain rfl:=sj h
  conv=>whnf
  try exact fin
 conv=>whnf
 apply ifc h<;>intro a h
 ·obtain rfl:=sj h
  conv=>whnf
  try exact fin
 conv=>whnf
 refine bq h fun _ d h=>⟨_,(Ub n _ _ _ d),?_⟩;conv=>whnf
 iterate 12 refine⟨id,?_⟩
 conv=>whnf
 apply ifc h<;>intro a h
 ·obtain rfl:=sj h
  conv=>whnf
  try exact fin
 obtain rfl:=sj h;conv=>whnf
 try exact fin
abbrev eC (r:SS):PV:=PV.str r
def Vl (n:Nat) (a:Int):Option SS:=
 bnd (idx ([48,49,50,51,52,53,54,55,56,57,97,98,99,100,101,102]:SS) (kwr .u8 (Int.tdiv a (16:Int)))) fun b=>
 bnd (idx ([48,49,50,51,52,53,54,55,56,57,97,98,99,100,101,102]:SS) (Int.tmod a (16:Int))) fun c=>
 some [b,c]
theorem Hg (n:Nat):∀ (a:Int) (r:SS),Vl n a=some r->qb TP 244 [PV.int .u8 a] (eC r):=by
 intro a r h;unfold Vl at h;refine zN Tryz.call244 Tryz.func244 [1000000] ?_;conv=>whnf
 refine⟨by unfold gI; decide,?_⟩;conv=>whnf
 refine bq h fun b e h=>⟨_,bX e,?_⟩;conv=>whnf
 refine⟨by unfold gI; decide,?_⟩;conv=>whnf
 refine bq h fun c d h=>⟨_,bX d,?_⟩;conv=>whnf
 refine⟨Codec.one uN [b,c],qT [b,c],.inl rfl,?_⟩;conv=>whnf
 refine⟨_,rfl,?_⟩;obtain rfl:=sj h;conv=>whnf
 try exact fin
end W
end
