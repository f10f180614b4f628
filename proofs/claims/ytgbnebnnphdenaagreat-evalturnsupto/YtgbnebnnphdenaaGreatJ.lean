/- A part of the proof: the plain law. -/
import Derived.Test.YtgbnebnnphdenaaGreatH
import Derived.Test.YtgbnebnnphdenaaGreatI
set_option linter.unusedVariables false
set_option linter.unusedSimpArgs false
set_option linter.unnecessarySimpa false
set_option linter.deprecated false
set_option linter.unusedSectionVars false
set_option linter.constructorNameAsVariable false
section
open Go Ax Go.Proofs
namespace W
def Res (N:Nat) (p:xa) (x:qa) (r:Val×Int):Prop:=VR r/\∀ n,N<=n->n<=1099511627776->qu n p x=some r
theorem Res.up {N M:Nat} {p:xa} {x:qa} {r:Val×Int} (h:Res N p x r) (c:N<=M):Res M p x r:=⟨h.1,fun n h1 h2=>h.2 n (by omega) h2⟩
theorem tk {p:xa} (hp:PlOk p) {x:qa} (c:EvOk x) (d:cQ x<=1048576):∃ r,Res 34361835520 p x r:=by
 obtain⟨r,h1,h2⟩:=(eD hp 1048576 (Nat.le_refl _)).1 x c d;exact⟨r,h1,fun n h3 h4=>h2 n (by omega) h4⟩
abbrev SM (m:Nat) (p:xa) (l:List qa):=xA m l (qu m) p.env.names p.env.vals p.g.nodes p.g.edges p.params.1 p.params.2 p.params.3 p.params.4 p.params.5 p.params.6
theorem Lk {m:Nat} {p:xa} {l:List qa} {x:qa} {i:Nat} (h:l[i]? =some x) (hl:l.length<=1000) {r:Val×Int} (n:qu m p x=some r) {acc:List Val} (ha:acc.length<=1000) (k:Nat) :
  qA (SM m p l) (k+1) (acc,((i:Nat):Int))=bif r.2 != 0 then some ([],r.2)else qA (SM m p l) k (acc++[r.1],((i+1:Nat):Int)):=by
 have f:=py h;obtain⟨⟨names,vals⟩,⟨nodes,edges⟩,⟨v,w,B,C,D,E⟩⟩:=p;rw[zJ];generalize qA (SM m _ l) k=nx;obtain⟨c,j,⟨o,q,s,t,u,z⟩,A,d⟩:=x;obtain⟨⟨F,z2,z3,z4,z5,G⟩,e⟩:=r;simp only[SM,xA,zM,gg f,zm,zG h,zl];have g:qu m (xa.mk (Env.mk names vals) (Graph.mk nodes edges) (Val.mk v w B C D E)) (qa.mk c j (Val.mk o q s t u z) A d)=some (Val.mk F z2 z3 z4 z5 G,e):=n;rw[g,zl]
 dsimp only
 rw[qo,vH (kdt (by simp; omega)),xW (by omega)]
theorem TZ {m:Nat} {p:xa} {l:List qa} (acc:List Val) (k:Nat):qA (SM m p l) (k+1) (acc,((l.length:Nat):Int))=some (acc,0):=by
 rw[zJ];simp only[SM,xA,zM,xZ,qw]
theorem Ll (m:Nat) (p:xa) (l:List qa):qW (m+1) p l=qA (SM m p l) m ([],0):=by
 obtain⟨⟨names,vals⟩,⟨nodes,edges⟩,⟨c,d,e,f,g,h⟩⟩:=p;rfl
def qa9 (a:Val×Int):List Val×Int:=bif a.2 != 0 then([],a.2)else([a.1],0)
def qbb (a b:Val×Int):List Val×Int:=bif a.2 != 0 then([],a.2)else bif b.2 != 0 then([],b.2)else([a.1,b.1],0)
theorem qba {N:Nat} {p:xa} {x:qa} {a:Val×Int} (c:Res N p x a) {n:Nat} (h1:N+10<=n) (h2:n<=1099511627776):qW n p [x]=some (qa9 a):=by
 obtain⟨k,rfl⟩:∃ k,n=k+3+1:=⟨n - 4,by omega⟩;rw[Ll];refine(Lk (i:=0) (x:=x) rfl (by simp) (c.2 _ (by omega) (by omega)) (by simp) (k+2)).trans ?_;unfold qa9;cases a.2 != 0 with
 | true=>rfl
 | false=>exact TZ (m:=k+3) (p:=p) (l:=[x]) [a.1] (k+1)
theorem qbc {N:Nat} {p:xa} {x y:qa} {a b:Val×Int} (c:Res N p x a) (d:Res N p y b) {n:Nat} (h1:N+10<=n) (h2:n<=1099511627776):qW n p [x,y]=some (qbb a b):=by
 obtain⟨k,rfl⟩:∃ k,n=k+3+1:=⟨n - 4,by omega⟩;rw[Ll];refine(Lk (i:=0) (x:=x) rfl (by simp) (c.2 _ (by omega) (by omega)) (by simp) (k+2)).trans ?_;unfold qbb;cases a.2 != 0 with
 | true=>rfl
 | false=>
  refine(Lk (m:=k+3) (p:=p) (l:=[x,y]) (acc:=[a.1]) (i:=1) (x:=y) rfl (by simp) (d.2 _ (by omega) (by omega)) (by simp) (k+1)).trans ?_;cases b.2 != 0 with
  | true=>rfl
  | false=>exact TZ (m:=k+3) (p:=p) (l:=[x,y]) [a.1,b.1] k
theorem Ci (m:Nat) (p:xa) {op:Int} (h:op≠1/\op≠2/\op≠3/\op≠14) (name:List UInt8) (val:Val) (nms:List (List UInt8)) (args:List qa) :
  qu (m+1) p (.mk op name val nms args)=bnd (qW m p args) fun r=>bif r.2 != 0 then some (Eu,r.2)else qY m op r.1 nms p.env.names p.env.vals p.g.nodes p.g.edges p.params.1 p.params.2 p.params.3 p.params.4 p.params.5 p.params.6 name ():=by
 obtain⟨⟨names,vals⟩,⟨nodes,edges⟩,⟨c,d,e,f,i,j⟩⟩:=p;obtain⟨k,l,n,o,q,s⟩:=val;show zK m (qu m) (qW m) _ _=_;unfold zK
 dsimp only
 rw[kbf.2 h.1,kbf.2 h.2.1,kbf.2 h.2.2.1,kbf.2 h.2.2.2];rfl
def To (a:Val×Int) (f:Val->Val×Int):Val×Int:=bif a.2 != 0 then(Eu,a.2)else f a.1
def Co (a b:Val×Int) (f:Val->Val->Val×Int):Val×Int:=bif a.2 != 0 then(Eu,a.2)else bif b.2 != 0 then(Eu,b.2)else f a.1 b.1
theorem qgj {N:Nat} {p:xa} {x:qa} {a:Val×Int} (i:Res N p x a) {op:Int} (h:op≠1/\op≠2/\op≠3/\op≠14) {name:List UInt8} {val:Val} {nms:List (List UInt8)} {f:Val->Val×Int} (hN:34359738368<=N)
  (c:a.2=0->Tot (N+10) (fun n=>qY n op [a.1] nms p.env.names p.env.vals p.g.nodes p.g.edges p.params.1 p.params.2 p.params.3 p.params.4 p.params.5 p.params.6 name ()) (fun r=>r=f a.1/\VR r)):Res (N+11) p (.mk op name val nms [x]) (To a f):=by
 refine⟨?_,fun n h1 h2=>?_⟩
 ·unfold To
  cases ha:a.2 != 0 with
  | true=>intro e; have:a.2=0:=e; rw[this]at ha; cases ha
  | false=>obtain⟨r,⟨rfl,d⟩,_⟩:=c (by simpa using ha); exact d
 ·obtain⟨m,rfl⟩:∃ m,n=m+1:=⟨n - 1,by omega⟩
  rw[Ci m p h,qba i (by omega) (by omega),zl];unfold qa9 To;cases ha:a.2 != 0 with
  | true=>simp only[zm,ha]
  | false=>obtain⟨r,⟨rfl,d⟩,j⟩:=c (by simpa using ha); exact j m (by omega) (by omega)
theorem qfy {N:Nat} {p:xa} {x y:qa} {a b:Val×Int} (j:Res N p x a) (k:Res N p y b) {op:Int} (h:op≠1/\op≠2/\op≠3/\op≠14) {name:List UInt8} {val:Val} {nms:List (List UInt8)} {f:Val->Val->Val×Int} (hN:34359738368<=N)
  (d:a.2=0->b.2=0->Tot (N+10) (fun n=>qY n op [a.1,b.1] nms p.env.names p.env.vals p.g.nodes p.g.edges p.params.1 p.params.2 p.params.3 p.params.4 p.params.5 p.params.6 name ()) (fun r=>r=f a.1 b.1/\VR r)):Res (N+11) p (.mk op name val nms [x,y]) (Co a b f):=by
 refine⟨?_,fun n h1 h2=>?_⟩
 ·unfold Co
  cases ha:a.2 != 0 with
  | true=>intro e; have:a.2=0:=e; rw[this]at ha; cases ha
  | false=>
   cases c:b.2 != 0 with
   | true=>intro e; have:b.2=0:=e; rw[this]at c; cases c
   | false=>obtain⟨r,⟨rfl,i⟩,_⟩:=d (by simpa using ha) (by simpa using c); exact i
 ·obtain⟨m,rfl⟩:∃ m,n=m+1:=⟨n - 1,by omega⟩
  rw[Ci m p h,qbc j k (by omega) (by omega),zl];unfold qbb Co;cases ha:a.2 != 0 with
  | true=>simp only[zm,ha]
  | false=>
   cases c:b.2 != 0 with
   | true=>simp only[zm,qw,c]
   | false=>obtain⟨r,⟨rfl,i⟩,l⟩:=d (by simpa using ha) (by simpa using c); exact l m (by omega) (by omega)
section
variable {N:Nat} {p:xa} {x y:qa} {a b:Val×Int} (hN:34359738368<=N)
include hN
theorem ah (c:Res N p x a) (d:Res N p y b) {name:List UInt8} {val:Val} {nms:List (List UInt8)} {f:Val->Val->Val×Int} (i:∀ v w,ej name v w=some (f v w)):Res (N+11) p (.mk 10 name val nms [x,y]) (Co a b f):=by
 refine qfy c d (by decide) hN fun j k=>?_;have h:=RM (c.1 j) (d.1 k) name;obtain⟨⟨l,z2,z3,z4,z5,m⟩,e⟩:=a;obtain⟨⟨n,o,q,s,t,u⟩,z⟩:=b;unfold qY xQ;exact((zh h).imp fun r g=>⟨g.2 _ (i _ _),g.1⟩).up (by omega)
def lT (v:Val):Val×Int:=(gB (LQ (vI v).1),(vI v).2)
theorem LY (i:Res N p x a) {name:List UInt8} {val:Val} {nms:List (List UInt8)}:Res (N+11) p (.mk 9 name val nms [x]) (To a lT):=by
 refine qgj i (by decide) hN fun j=>?_;obtain⟨⟨c,z2,z3,z4,z5,d⟩,e⟩:=a;unfold qY;refine Tot.bnd (.of (fun n _ _=>tl n _) (Q:=fun r=>r=vI (.mk c z2 z3 z4 z5 d)) rfl) fun r f=>?_
 obtain⟨t,k⟩:=r;have g:=dR (.mk c z2 z3 z4 z5 d);rw[← f]at g;refine Tot.bnd (.of (fun n _ _=>lU n g) (Q:=fun u=>u=LQ t) rfl) fun u hu=>Tot.bnd (.of (fun n _ _=>rm n u) (Q:=fun v=>v=gB u) rfl) fun v h=>?_
 subst hu;obtain⟨l,m,o,q,s,w⟩:=v;refine .one ⟨?_,fun _=>by dsimp only; rw[h]; exact dS _⟩
 unfold lT
 dsimp only
 rw[← f,h]
end
def Pb (r:Val×Int):Val×Int:=bif r.2 != 0 then(Eu,r.2)else(r.1,0)
theorem Uw {N:Nat} {a:vK} {x:qa} {r:Val×Int} (i:Res N ⟨a.v,a.g,a.params⟩ x r) (hN:34359738368<=N) {n:Nat} (h1:N<=n) (h2:n<=1099511627776):zA n x a=some (Pb r):=by
 have h:=i.2 n h1 h2;have m:=i.1;obtain⟨⟨names,vals⟩,⟨nodes,edges⟩,⟨w,B,C,D,E,F⟩⟩:=a;obtain⟨c,j,⟨o,q,s,t,u,z⟩,A,d⟩:=x;obtain⟨⟨k,z2,z3,z4,z5,l⟩,e⟩:=r;have h:qu n (xa.mk (Env.mk names vals) (Graph.mk nodes edges) (Val.mk w B C D E F)) (qa.mk c j (Val.mk o q s t u z) A d)=some (Val.mk k z2 z3 z4 z5 l,e):=h;unfold zA cE Pb
 dsimp only
 rw[h,zl]
 dsimp only
 cases he:e != 0 with
 | true=>rfl
 | false=>
  have f:VF (Val.mk k z2 z3 z4 z5 l):=m (by simpa using he);rw[qw,Bt n h2 _ (by have:=f.big; omega)];rfl
end W
end
section
open Go Ax
namespace W
set_option maxRecDepth 100000 in
theorem oX (m:Nat):xY (m+400)=some true:=by kernel_rfl
theorem oW {n:Nat} (h:400<=n):xY n=some true:=by
 obtain⟨m,rfl⟩:=Nat.exists_eq_add_of_le' h;exact oX m
end W
end
section
open Go Ax Go.Proofs
namespace W
theorem tj (a:vK):3<=XB a:=by
 have h1:=xP a.v.vals;have h2:=Vg a.params;unfold XB;omega
structure Pair (n:Nat) (A:vK) (e:xm):Prop where
 ok:∃ r r',zA n e.a A=some r/\zA n e.b A=some r'/\((r.2=0)↔(r'.2=0))/\(r.2=0->r.1=r'.1/\VF r.1)
theorem XN {n:Nat} {v:Val} (a:VF v) (h1:34359738368<=n) (h2:n<=1099511627776):xp n v v=some true:=by
 obtain⟨q,h3,h4⟩:=(LW n h2).1 v v (by have:=a.big; omega);rw[h3,h4.2 rfl]
theorem Ux (r:Val×Int):(Pb r).2=r.2/\(r.2=0->(Pb r).1=r.1):=by
 unfold Pb;cases h:r.2 != 0 with
 | true=>exact⟨rfl,fun e=>by rw[e]at h; cases h⟩
 | false=>
  have this:r.2=0:=by simpa using h
  exact⟨this.symm,fun _=>rfl⟩
theorem qcb {N n:Nat} {A:vK} {x y:qa} {r r':Val×Int} (a:Res N ⟨A.v,A.g,A.params⟩ x r) (d:Res N ⟨A.v,A.g,A.params⟩ y r') (b:34359738368<=N) (h1:N<=n) (h2:n<=1099511627776) (he:r.2=0↔r'.2=0) (e:r.2=0->r.1=r'.1):Pair n A ⟨x,y⟩:=by
 obtain⟨c,a2⟩:=Ux r;obtain⟨f,i⟩:=Ux r';refine⟨Pb r,Pb r',Uw a b h1 h2,Uw d b h1 h2,by rw[c,f]; exact he,fun h=>?_⟩;rw[c]at h;rw[a2 h,i (he.1 h)];exact⟨e h,a.1 h⟩
theorem LS {a b:Val×Int} {f g:Val->Val->Val×Int} (h:∀ v w,(f v w).2=0/\(g w v).2=0/\(f v w).1=(g w v).1):((Co a b f).2=0↔(Co b a g).2=0)/\((Co a b f).2=0->(Co a b f).1=(Co b a g).1):=by
 unfold Co;cases ha:a.2 != 0 with
 | true=>
  have c:a.2≠0:=by simpa using ha
  cases e:b.2 != 0 with
  | true=>
   have d:b.2≠0:=by simpa using e
   exact⟨⟨fun h=>absurd h c,fun h=>absurd h d⟩,fun h=>absurd h c⟩
  | false=>exact⟨⟨fun h=>absurd h c,fun h=>absurd h c⟩,fun h=>absurd h c⟩
 | false=>
  cases e:b.2 != 0 with
  | true=>
   have d:b.2≠0:=by simpa using e
   exact⟨⟨fun h=>absurd h d,fun h=>absurd h d⟩,fun h=>absurd h d⟩
  | false=>have:=h a.1 b.1; exact⟨⟨fun _=>this.2.1,fun _=>this.1⟩,fun _=>this.2.2⟩
theorem RH (x y:Int) (a:T3 x) (b:T3 y):LQ (MM x y)=or3 (LQ x) (LQ y):=by rcases a with rfl|rfl|rfl<;>rcases b with rfl|rfl|rfl<;>decide
theorem aR (x y:Int) (a:T3 x) (b:T3 y):qa1 x y=qa1 y x:=by rcases a with rfl|rfl|rfl<;>rcases b with rfl|rfl|rfl<;>decide
theorem qed (a b:Val×Int):((To (Co a b (gh MM)) lT).2=0↔(Co (To a lT) (To b lT) (gh or3)).2=0) /\
  ((To (Co a b (gh MM)) lT).2=0->(To (Co a b (gh MM)) lT).1=(Co (To a lT) (To b lT) (gh or3)).1):=by
 have i:=dR a.1;have j:=dR b.1;unfold To Co lT gh;cases ha:a.2 != 0 with
 | true=>
  have f:a.2≠0:=by simpa using ha
  simp only[zm,ha]
  first|exact⟨Iff.rfl,fun h=>absurd h f⟩|exact⟨trivial,fun h=>absurd h f⟩
 | false=>
  have l:a.2=0:=by simpa using ha
  cases k:b.2 != 0 with
  | true=>
   have c:b.2≠0:=by simpa using k
   simp only[zm,qw,k];cases g:(vI a.1).2 != 0 with
   | true=>
    have d:(vI a.1).2≠0:=by simpa using g
    exact⟨⟨fun h=>absurd h c,fun h=>absurd h d⟩,fun h=>absurd h c⟩
   | false=>exact⟨⟨fun h=>absurd h c,fun h=>absurd h c⟩,fun h=>absurd h c⟩
  | false=>
   simp only[qw];cases g:(vI a.1).2 != 0 with
   | true=>
    have d:(vI a.1).2≠0:=by simpa using g
    simp only[zm,g]
    first|exact⟨Iff.rfl,fun h=>absurd h d⟩|exact⟨trivial,fun h=>absurd h d⟩
   | false=>
    have m:(vI a.1).2=0:=by simpa using g
    cases hl:(vI b.1).2 != 0 with
    | true=>
     have e:(vI b.1).2≠0:=by simpa using hl
     simp only[zm,qw,hl]
     first|exact⟨⟨fun h=>absurd h e,fun h=>absurd h e⟩,fun h=>absurd h e⟩|exact⟨trivial,fun h=>absurd h e⟩
    | false=>
     have n:(vI b.1).2=0:=by simpa using hl
     have z:((0:Int) != 0)=false:=rfl;simp only[qw,z,Zq (aE i j),Zq (NS i),Zq (NS j)]
     first|exact⟨⟨fun _=>rfl,fun _=>rfl⟩,fun _=>by rw[RH _ _ i j]⟩|exact⟨trivial,fun _=>by rw[RH _ _ i j]⟩
abbrev mP:Val:=Val.mk (0:Int) false (0:Int) ([]:List UInt8) ([]:List Val) ([]:List (List UInt8))
theorem qew (n:Nat) (op:List UInt8) (x y:qa):uR n op x y=some (qa.mk 10 op mP [] [x,y]):=by
 obtain⟨c,a2,⟨a3,a4,a5,d,e,f⟩,a9,a⟩:=x;obtain⟨g,h,⟨i,j,k,l,m,o⟩,p,b⟩:=y;rfl
theorem qar (n:Nat) (op:Int) (x:qa):nG n op x=some (qa.mk op [] mP [] [x]):=by
 obtain⟨b,a2,⟨a3,a4,a5,c,d,e⟩,a9,a⟩:=x;rfl
theorem oo {p:xa} {N:Nat} (o:34359738368<=N) {n:Nat} (h1:N+22<=n) (h2:n<=1099511627776) {A:vK} (u:p=⟨A.v,A.g,A.params⟩) {x y:qa} {a b:Val×Int} (i:Res N p x a) (j:Res N p y b) :
  ∀ e∈[xm.mk (.mk 10 [60,62] mP [] [x,y]) (.mk 9 [] mP [] [.mk 10 [61] mP [] [x,y]]),xm.mk (.mk 10 [60] mP [] [x,y]) (.mk 10 [62] mP [] [y,x]),xm.mk (.mk 10 [60,61] mP [] [x,y]) (.mk 10 [62,61] mP [] [y,x]),
   xm.mk (.mk 10 [61] mP [] [x,y]) (.mk 10 [61] mP [] [y,x]),xm.mk (.mk 9 [] mP [] [.mk 10 [65,78,68] mP [] [x,y]]) (.mk 10 [79,82] mP [] [.mk 9 [] mP [] [x],.mk 9 [] mP [] [y]]),xm.mk (.mk 10 [88,79,82] mP [] [x,y]) (.mk 10 [88,79,82] mP [] [y,x])],Pair n A e:=by
 subst u;have bin:=fun{x y:qa} {a b:Val×Int} (i:Res N ⟨A.v,A.g,A.params⟩ x a) (j:Res N ⟨A.v,A.g,A.params⟩ y b) (name:List UInt8) (f:Val->Val->Val×Int) (B:∀ v w,ej name v w=some (f v w))=>ah o i j (name:=name) (val:=mP) (nms:=[]) B;have go:=fun{e C:qa} {r r':Val×Int} {M t:Nat} (h:Res M ⟨A.v,A.g,A.params⟩ e r) (D:Res t ⟨A.v,A.g,A.params⟩ C r') (E:M<=N+22) (s:t<=N+22) (q:(r.2=0↔r'.2=0)/\(r.2=0->r.1=r'.1))=>qcb (n:=n) (h.up E) (D.up s) (by omega) h1 h2 q.1 q.2;intro e he;simp only[List.mem_cons,List.not_mem_nil,or_false]at he;rcases he with rfl|rfl|rfl|rfl|rfl|rfl
 ·refine go (bin i j _ (fun v w=>(gB (LQ (eq3 v w)),0)) fun v w=>rfl) (LY (by omega) (bin i j _ (fun v w=>(gB (eq3 v w),0)) fun v w=>rfl)) (by omega) (by omega) ?_
  unfold To Co lT;cases ha:a.2 != 0 with
  | true=>
   have c:a.2≠0:=by simpa using ha
   simp only[zm,ha]
   first|exact⟨Iff.rfl,fun h=>absurd h c⟩|exact⟨trivial,fun h=>absurd h c⟩
  | false=>
   cases m:b.2 != 0 with
   | true=>
    have d:b.2≠0:=by simpa using m
    simp only[zm,qw,m]
    first|exact⟨Iff.rfl,fun h=>absurd h d⟩|exact⟨trivial,fun h=>absurd h d⟩
   | false=>
    have z:((0:Int) != 0)=false:=rfl;have h3:=qae a.1 b.1 (i.1 (by simpa using ha));simp only[qw,z,Zq h3]
    first|exact⟨Iff.rfl,fun _=>rfl⟩|exact⟨trivial,fun _=>rfl⟩|trivial
 ·exact go (bin i j _ (fun v w=>(gB (Es v w),0)) fun v w=>rfl) (bin j i _ (fun v w=>(gB (Es w v),0)) fun v w=>rfl) (by omega) (by omega) (LS fun v w=>⟨rfl,rfl,rfl⟩)
 ·exact go (bin i j _ (fun v w=>(gB (LQ (Es w v)),0)) fun v w=>rfl) (bin j i _ (fun v w=>(gB (LQ (Es v w)),0)) fun v w=>rfl) (by omega) (by omega) (LS fun v w=>⟨rfl,rfl,rfl⟩)
 ·exact go (bin i j _ (fun v w=>(gB (eq3 v w),0)) fun v w=>rfl) (bin j i _ (fun v w=>(gB (eq3 v w),0)) fun v w=>rfl) (by omega) (by omega) (LS fun v w=>⟨rfl,rfl,by dsimp only; rw[RS]⟩)
 ·exact go (LY (by omega) (bin i j _ (gh MM) fun v w=>rfl)) (ah (by omega) (LY o i) (LY o j) (f:=gh or3) fun v w=>rfl) (by omega) (by omega) (qed a b)
 refine go (bin i j _ (gh qa1) fun v w=>rfl) (bin j i _ (gh qa1) fun v w=>rfl) (by omega) (by omega) ?_
 unfold Co gh;have h3:=aR _ _ (dR a.1) (dR b.1);cases ha:a.2 != 0 with
 | true=>
  have c:a.2≠0:=by simpa using ha
  cases m:b.2 != 0 with
  | true=>
   have d:b.2≠0:=by simpa using m
   exact⟨⟨fun h=>absurd h c,fun h=>absurd h d⟩,fun h=>absurd h c⟩
  | false=>exact⟨⟨fun h=>absurd h c,fun h=>absurd h c⟩,fun h=>absurd h c⟩
 | false=>
  cases m:b.2 != 0 with
  | true=>
   have d:b.2≠0:=by simpa using m
   exact⟨⟨fun h=>absurd h d,fun h=>absurd h d⟩,fun h=>absurd h d⟩
  | false=>
   cases F:(vI a.1).2 != 0 with
   | true=>
    have k:(vI a.1).2≠0:=by simpa using F
    cases hl:(vI b.1).2 != 0 with
    | true=>
     have l:(vI b.1).2≠0:=by simpa using hl
     exact⟨⟨fun h=>absurd h k,fun h=>absurd h l⟩,fun h=>absurd h k⟩
    | false=>exact⟨⟨fun h=>absurd h k,fun h=>absurd h k⟩,fun h=>absurd h k⟩
   | false=>
    cases hl:(vI b.1).2 != 0 with
    | true=>
     have l:(vI b.1).2≠0:=by simpa using hl
     exact⟨⟨fun h=>absurd h l,fun h=>absurd h l⟩,fun h=>absurd h l⟩
    | false=>
     simp only[qw,h3]
     first|exact⟨Iff.rfl,fun _=>rfl⟩|exact⟨trivial,fun _=>rfl⟩|trivial
abbrev n0:Nat:=68719476736
theorem Ct:xY 68719476736=some true:=oW (by decide)
set_option maxRecDepth 100000 in
theorem lG {x y:qa} {a:vK} (P:cQ x+cQ y+XB a<=1048570):bG 68719476736 x y a=some true:=by
 obtain⟨E,hl⟩:=XY (n:=68719476736) (by decide) (by decide) (l:=[x,y]) (by have:=tj a; simp only[cM]; omega);obtain⟨v,m,i⟩:=XV 1048576 (by decide) x 30 (by omega);obtain⟨f,o,j⟩:=XV 1048576 (by decide) y 30 (by omega);obtain⟨w,g,hm⟩:=Uz (a:=a) (by omega);have i:=i 68719476736 (by decide) (by decide);have j:=j 68719476736 (by decide) (by decide);have hm:=hm 68719476736 (by decide) (by decide);have hw:=Ct;have b:v=true->f=true->w=true->∀ e∈[xm.mk (.mk 10 [60,62] mP [] [x,y]) (.mk 9 [] mP [] [.mk 10 [61] mP [] [x,y]]),xm.mk (.mk 10 [60] mP [] [x,y]) (.mk 10 [62] mP [] [y,x]),xm.mk (.mk 10 [60,61] mP [] [x,y]) (.mk 10 [62,61] mP [] [y,x]),
   xm.mk (.mk 10 [61] mP [] [x,y]) (.mk 10 [61] mP [] [y,x]),xm.mk (.mk 9 [] mP [] [.mk 10 [65,78,68] mP [] [x,y]]) (.mk 10 [79,82] mP [] [.mk 9 [] mP [] [x],.mk 9 [] mP [] [y]]),xm.mk (.mk 10 [88,79,82] mP [] [x,y]) (.mk 10 [88,79,82] mP [] [y,x])],Pair 68719476736 a e:=by
  intro z e2 p;obtain⟨r,F⟩:=tk (g p) (m z) (by omega);obtain⟨r',q⟩:=tk (g p) (o e2) (by omega);exact oo (by decide) (by decide) (by decide) rfl F q
 obtain⟨Q,R,⟨S,T,U,V,X,Y⟩,Z,G⟩:=x;obtain⟨y1,y2,⟨y3,y4,y5,y6,y7,y8⟩,y9,H⟩:=y;obtain⟨⟨a1,a2⟩,⟨a3,a4⟩,⟨a5,a6,a7,a8,a9,I⟩⟩:=a;unfold bG
 dsimp only
 rw[hl,zl]
 dsimp only at i j hm
 rw[i,j,hm,hw];cases E with
 | true=>rfl
 | false=>
  cases v with
  | false=>rfl
  | true=>
   cases f with
   | false=>rfl
   | true=>
    cases w with
    | false=>rfl
    | true=>
     have b:=b rfl rfl rfl;simp only[Bool.not_true,Bool.not_false,gL,zl,qw,qew,qar];unfold cd
     revert b
     generalize hL:[xm.mk (qa.mk 10 [60,62] mP [] _) _,xm.mk _ _,xm.mk _ _,xm.mk _ _,xm.mk _ _,xm.mk _ _]=L;intro b;have hlen:L.length=6:=by rw[← hL]; rfl
     clear hL;refine(sE (st:=fun k:Nat=>((k:Nat):Int)) L.length (fun k s J=>?_) (fun J=>?_) (by omega:L.length<68719476736):_)
     ·have c:(xm.rows L).length=L.length:=by simp[xm.rows]
      rw[c,gg s,zm,zG (xG s),zl];have hp:=b L[k] (List.getElem_mem s);generalize L[k]=e at hp ⊢;obtain⟨⟨z,e2,⟨p,e4,e5,e6,e7,e8⟩,e9,K⟩,⟨f1,f2,⟨f3,f4,f5,f6,f7,f8⟩,f9,M⟩⟩:=e;obtain⟨r,r',A,B,t,C⟩:=hp.ok
      dsimp only at A B ⊢
      rw[A,zl];obtain⟨⟨z1,z2,z3,z4,z5,z6⟩,N⟩:=r
      dsimp only
      rw[zl]
      dsimp only
      rw[B,zl];obtain⟨⟨w1,w2,w3,w4,w5,w6⟩,O⟩:=r'
      dsimp only at t C ⊢
      rw[xW (by omega)];by_cases hz:N=0
      ·have d:=t.1 hz
       obtain⟨D,u⟩:=C hz;subst hz d;rw[D,XN (by rw[← D]; exact u) (by decide) (by decide)];rfl
      have d:O≠0:=fun h=>hz (t.2 h)
      rw[kbf.2 hz,kbf.2 d];rfl
     have c:(xm.rows L).length=L.length:=by simp[xm.rows]
     rw[c,xZ];rfl
end W
end
