/- A part of the proof: the plain law. -/
import Derived.WalkKit
import Derived.WalkSpells
import Derived.WalkLawsBesides
import Derived.Maps.AppendAt
import Derived.Deep.RegionWith
import Derived.Test.YtglihheagfnakaaGreatB
set_option linter.unusedVariables false
set_option linter.unusedSimpArgs false
set_option linter.unnecessarySimpa false
set_option linter.deprecated false
set_option linter.unusedSectionVars false
set_option linter.constructorNameAsVariable false
section
namespace Go.Proofs
theorem Tryz.Builder_Extra_156:Builder.Extra Tryz.prog Tryz.lays156_ren where
 sizeBuilder:=by kernel_rfl
 liesBuilder:=by kernel_rfl
 t5:=Tryz.underlying5
 a5:=Tryz.isAgg5
 z5:=Tryz.sizeOf5
 v5:=Tryz.zeroValue5
 infoByte:=by kernel_rfl
 cellsByte:=by kernel_rfl
 sizeByte:=by kernel_rfl
 neB5:=by decide
open Go.RowKit in
theorem Tryz.strings_Join_none (a:Option Addr) (c:Nat) (sep:ByteArray) (w:World) :
  Calls Tryz.prog 97 #[.slice a 0 c,.string sep] w fun e w'=>e=.returned (.string ⟨#[]⟩)/\w'=w:=Any.strings_Join_none Tryz.lays156 Tryz.Builder_Extra_156 a c sep w
open Go.RowKit in
theorem Tryz.strings_Join (bk o c:Nat) (xs:List ByteArray) (sep:ByteArray) (w:World) (hcells:∀(j:Nat) x,xs[j]? =some x->w.cell? ⟨bk,o+j,none⟩=some (.string x)) (hbk:bk<w.heap.size) (hN:xs.length<=140737488355328) (hcap:xs.length<=c) (hlen:(Lib.join (xs.map (·.data.toList)) sep.data.toList).length<=140737488355328) :
  Calls Tryz.prog 97 #[.slice (some ⟨bk,o,none⟩) xs.length c,.string sep] w fun e w'=>e=.returned (.string ⟨(Lib.join (xs.map (·.data.toList)) sep.data.toList).toArray⟩)/\Below w.heap.size w w':=Any.strings_Join Tryz.lays156 Tryz.Builder_Extra_156 bk o c xs sep w hcells hbk hN hcap hlen
theorem Tryz.Builder_Extra_169:Builder.Extra Tryz.prog Tryz.lays169_ren where
 sizeBuilder:=by kernel_rfl
 liesBuilder:=by kernel_rfl
 t5:=Tryz.underlying5
 a5:=Tryz.isAgg5
 z5:=Tryz.sizeOf5
 v5:=Tryz.zeroValue5
 infoByte:=by kernel_rfl
 cellsByte:=by kernel_rfl
 sizeByte:=by kernel_rfl
 neB5:=by decide
end Go.Proofs
open Go Go.Proofs Ax Go.RowKit
namespace W
theorem VB {Lw:Nat} {H:PH Lw} {rows:List (List PV)} {v:Value} (h:qO H (.sl rows) v):∃ p cap,v=.slice p rows.length cap:=by
 simp only[qO]at h
 rcases h with ⟨h0,rfl|⟨a,cap,rfl⟩⟩|⟨b,o,z',cap,e,hc,r⟩
 ·exact⟨none,0,by rw[h0]; rfl⟩
 ·exact⟨some a,cap,by rw[h0]; rfl⟩
 ·exact⟨_,_,e⟩
theorem bK (l:List (List UInt8)):(qv l).length=l.length:=Codec.length (C:=CZ) l
def ck (_:Nat) (a:List (List UInt8)) (sep:List UInt8):Option (List UInt8):=
 chk (decide ((Lib.join a sep).length<=140737488355328)) (chk (decide (a.length<=140737488355328)) (some (Lib.join a sep)))
set_option maxRecDepth 100000 in
theorem UN (n:Nat):∀(a:List (List UInt8)) (sep r:List UInt8),ck n a sep=some r->qh Tryz.prog 97 [.sl (qv a),.str sep] (.str r):=by
 intro a sep r h
 obtain⟨h1,h⟩:=qu h
 obtain⟨h2,h⟩:=qu h
 obtain rfl:=Option.some.inj h
 intro Lw H w vs hsat hr
 simp only[zC]at hr
 obtain⟨v,_,rfl,rv,u,_,rfl,ru,rfl⟩:=hr
 simp only[qO]at rv ru
 subst ru
 rw[Tryz.call97]
 refine⟨rfl,?_⟩
 rcases rv with ⟨h0,rv⟩|⟨b,o,z,cap,rfl,hcap,rr⟩
 ·have ha:a=[]:=by cases a with|nil=>rfl|cons _ _=>cases h0
  subst ha
  have go:∀(p:Option Addr) (c:Nat),Calls Tryz.prog 97 #[.slice p 0 c,.string ⟨sep.toArray⟩] w fun e w''=>∃ v H',e=.returned v/\Calm H w H' w''/\qO H' (.str (Lib.join [] sep)) v:=fun p c=>
   (Tryz.strings_Join_none p c ⟨sep.toArray⟩ w).mono fun e w' q=>by obtain⟨rfl,rfl⟩:=q; exact⟨_,H,rfl,Calm.refl hsat,by simp[qO,Lib.join]⟩
  rcases rv with rfl|⟨p,cap,rfl⟩
  ·exact go none 0
  ·exact go (some p) cap
 ·have hl:(qv a).length=a.length:=by simp[qv]
  rw[hl]at hcap ⊢
  have em:(a.map fun l=>(⟨l.toArray⟩:ByteArray)).map (fun x=>x.data.toList)=a:=by rw[List.map_map]; exact List.map_id' a
  cases ha:a with
  | nil=>
   subst ha
   exact(Tryz.strings_Join_none (some ⟨b,o,none⟩) cap ⟨sep.toArray⟩ w).mono fun e w' q=>by obtain⟨rfl,rfl⟩:=q; exact⟨_,H,rfl,Calm.refl hsat,by simp[qO,Lib.join]⟩
  | cons x0 a0=>
   rw[← ha]
   have hcells:∀(j:Nat) x,(a.map fun l=>(⟨l.toArray⟩:ByteArray))[j]? =some x->w.cell? ⟨b,o+j,none⟩=some (.string x):=by
    intro j x hj
    rw[List.getElem?_map]at hj
    obtain⟨l,hl,rfl⟩:=Option.map_eq_some_iff.1 hj
    exact(hsat.cell _ _ _ (rN rr j l hl)).1
   have hbk:b<w.heap.size:=hsat.lt (rN rr 0 x0 (by rw[ha]; rfl))
   have c:=Tryz.strings_Join b o cap (a.map fun l=>⟨l.toArray⟩) ⟨sep.toArray⟩ w hcells hbk (by rw[List.length_map]; exact kod h2) (by rw[List.length_map]; exact hcap) (by rw[em]; exact kod h1)
   rw[List.length_map,em]at c
   exact c.mono fun e w' p=>⟨_,H,p.1,UT hsat p.2,by simp[qO]⟩
theorem DV:∀(args:Array Value) (w:World),(callFunc 52 args).run Tryz.prog w=.ok (.enter 52 args) w:=fun _ _=>Tryz.call52 _ _
theorem tT (b:Nat) (l:List UInt8) (w:World) (p v:Value) (hbk:w.heap[b]? =some (.cells #[p,v] 124 (0,0))) (hown:w.ownsRow 0 5 1 v l.length (Lib.byteCells l)) (h0:l≠[]) :
  Calls Tryz.prog 52 #[.pointer (some ⟨b,0,none⟩)] w (Cg l v w):=Any.String_exact Tryz.lays169 Tryz.Builder_Extra_169 b l w p v hbk hown h0
theorem tS:Ch Tryz.prog 52 124 5:=fun b w p v hbk hown=>Any.String_empty Tryz.lays169 Tryz.Builder_Extra_169 b w p v hbk hown
end W
end
section
open Go Go.Proofs Ax Go.RowKit
namespace W
theorem SD (w:World) (cs:List Value) (t:TypeId) (j:Nat) (v:Value) (h:cs[j]? =some v):(w.alloc (.cells cs.toArray t)).cell? ((⟨w.heap.size,0,none⟩:Addr).add j)=some v:=by
 have e:(⟨w.heap.size,0,none⟩:Addr).add j=⟨w.heap.size,j,none⟩:=by
  unfold Addr.add
  split
  ·rename_i h0; rw[h0]
  ·simp
 rw[e,World.cell?_alloc_new]
 simpa using h
theorem VZ (w:World) (o:Obj) (j:Nat) (h:w.heap.size=j):(w.alloc o).heap[j]? =some o:=by
 subst h
 exact Array.getElem?_push_size
set_option maxRecDepth 100000 in
theorem XE {f:FuncId} {args:List PV} {r:PV} (hf:∀(vs:Array Value) (w:World),(callFunc f vs).run Tryz.prog w=.ok (.enter f vs) w) (h:qh Tryz.prog f args r) {Lw:Nat} {H:PH Lw} {w:World} {vs:List Value} (s:SatH H w) (rl:zC H args vs) :
  Calls Tryz.prog f vs.toArray w fun e w'=>∃ v H',e=.returned v/\Calm H w H' w'/\qO H' r v:=by
 have h0:=h H w vs s rl
 rw[hf vs.toArray w]at h0
 exact h0.2
theorem Fx {Lw:Nat} {H:PH Lw} {v:Val} {us:List Value} (h:zC H v.cells us):∃(k i:Int) (b:Bool) (s:ByteArray) (p q:Option Addr) (n c m e:Nat),us=[.int .i64 k,.bool b,.int .i64 i,.string s,.slice p n c,.slice q m e]:=by
 obtain⟨k,b,i,s,l,ks⟩:=v
 simp only[Val.cells,zC]at h
 obtain⟨i0,_,rfl,h1,i1,_,rfl,h2,i2,_,rfl,h3,i3,_,rfl,h4,y0,_,rfl,h5,z0,_,rfl,h6,rfl⟩:=h
 obtain⟨p,c,rfl⟩:=VB h5
 obtain⟨q,e,rfl⟩:=VB h6
 simp only[qO]at h1 h2 h3 h4
 subst h1 h2 h3 h4
 exact⟨_,_,_,_,_,_,_,_,_,_,rfl⟩
theorem DS {Lw:Nat} {H H1:PH Lw} {w w1 w2:World} (c:Calm H w H1 w1) {row:Option Nat} (k:w1.grownBy w2 row) (hrow:∀ b,row=some b->w.heap.size<=b/\∀ o u,H1 b o≠some u) {e:TypeId} {z n:Nat} {v':Value} {xs:List Value}
  (hown:w2.ownsRow w.heap.size e z v' n xs) (hv:∀ b,qR v'=some b->∀ o u,H1 b o≠some u) (h1:∀ u∈xs,u.oneCell'=true):Calm H w (xe H1 v' xs) w2/\PH.le H1 (xe H1 v' xs):=by
 have hle:PH.le H1 (xe H1 v' xs):=by
  intro b o u hu
  unfold xe
  rw[if_neg (fun hc=>hv b hc.1 o u hu)]
  exact hu
 have hge:∀ b,qR v'=some b->w.heap.size<=b:=by
  intro b hb
  rcases hown.2 with ⟨rfl,_⟩|⟨g,cap,cur,rfl,hg,_⟩
  ·simp[qR]at hb
  ·simp[qR]at hb; omega
 have hown0:w2.ownsRow 0 e z v' n xs:=⟨hown.1,hown.2.imp id fun⟨g,cap,cur,a,b,c⟩=>⟨g,cap,cur,a,Nat.zero_le _,c⟩⟩
 have hcell:∀ g,qR v'=some g->∀ o u,xs[o]? =some u->w2.cell? ⟨g,o,none⟩=some u:=by
  intro g hg o u hu
  have:=hown0.cells (g:=g) (by
   rcases hown0.2 with ⟨rfl,_⟩|⟨g',cap,cur,rfl,_⟩
   ·simp[qR]at hg
   ·simpa[qR,Value.ownBlock]using hg) o u hu
  rwa [Addr.add_lit,Nat.zero_add]at this
 have hblk:∀ b o u,H1 b o=some u->w2.heap[b]? =w1.heap[b]?:=fun b o u hu=>k.block b (c.sat.lt hu) fun e=>(hrow b e.symm).2 o u hu
 refine⟨⟨fun b o u hu=>hle b o u (c.le b o u hu),⟨?_,c.sat.root.mono hle,Nat.le_trans c.sat.low k.size,?_⟩,⟨k.os.trans c.keep.os,k.tape.trans c.keep.tape,k.output.trans c.keep.output,Nat.le_trans c.keep.size k.size,fun i hi hn=>?_⟩,fun b o u hu=>?_⟩,hle⟩
 ·intro b o u hu
  unfold xe at hu
  split at hu
  ·rename_i hc
   exact⟨hcell b hc.1 o u hu,h1 u (List.mem_of_getElem? hu)⟩
  ·obtain⟨hcl,hone⟩:=c.sat.cell b o u hu
   refine⟨?_,hone⟩
   rw[World.cell?_of_block (w:=w1) (a:=⟨b,o,none⟩) (hblk b o u hu)]
   exact hcl
 ·intro b o u hu hL
  by_cases hbv:qR v'=some b
  ·exact .own hown0 hbv
  ·unfold xe at hu
   rw[if_neg (fun hc=>hbv hc.1)]at hu
   exact(c.sat.nf b o u hu hL).block (hblk b o u hu)
 ·have h2:=c.keep.block i hi hn
  rw[← h2]
  exact k.block i (Nat.lt_of_lt_of_le hi c.keep.size) fun e=>by have:=(hrow i e.symm).1; omega
 ·unfold xe at hu
  split at hu
  ·rename_i hc; exact .inr (hge b hc.1)
  ·exact c.new b o u hu
set_option maxHeartbeats 4000000 in
set_option maxRecDepth 100000 in
theorem Pz (p:Option Addr) (c:Nat) (w:World):Calls Tryz.prog 56 #[.slice p 0 c] w fun e w'=>∃ q d,e=.returned (.slice q 0 d)/\w'.ownsRow w.heap.size 9 1 (.slice q 0 d) 0 []/\Below w.heap.size w w':=by
 cases p with
 | none=>exact(Tryz.slices_Clone_string_nil 0 c w).mono fun e w' ⟨h1,h2⟩=>by subst h2; exact⟨none,0,h1,World.ownsRow_nil _ _ _ _,Below.refl _ _⟩
 | some a=>
  refine(Tryz.slices_Clone_string_zero a c w).mono fun e w' ⟨v',h1,ho,_,hb⟩=>?_
  rcases ho.2 with ⟨rfl,_⟩|⟨g,cap,cur,rfl,hg⟩
  ·exact⟨none,0,h1,ho,hb⟩
  ·exact⟨_,cap,h1,ho,hb⟩
theorem Ev {w:World} {base e z n:Nat} {v:Value} {xs:List Value} (h:w.ownsRow base e z v n xs):qR v=v.ownBlock:=by
 rcases h.2 with ⟨rfl,_⟩|⟨g,cap,cur,rfl,_⟩<;>rfl
section
variable {Lw:Nat} {H H':PH Lw} {w w2 w3 w4 w5:World} {X Y:Obj} {vp vq v1 v2 s:Value} {us:List Value}
end
end W
end
