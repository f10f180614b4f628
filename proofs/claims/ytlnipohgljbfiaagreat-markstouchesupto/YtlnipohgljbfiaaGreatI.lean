/- A part of the proof: contracts, printed by program. -/
import Derived.Test.YtlnipohgljbfiaaGreatB
import Derived.Test.YtlnipohgljbfiaaGreatC
import Derived.Test.YtlnipohgljbfiaaGreatD
import Derived.Test.YtlnipohgljbfiaaGreatG
import Derived.Test.YtlnipohgljbfiaaGreatH
set_option linter.unusedVariables false
set_option linter.unusedSimpArgs false
set_option linter.unnecessarySimpa false
set_option linter.deprecated false
set_option linter.unusedSectionVars false
set_option linter.constructorNameAsVariable false
open Go.IntKind renaming wrap->kwr,bits->kbt
section
set_option maxRecDepth 100000
set_option maxHeartbeats 4000000
open Go Go.Proofs Ax
namespace W
abbrev Ba (_:List (SS×Int)) (_:List SS) (r:(List (SS×Int))):FV:=.p (.tup [])
abbrev CS (_:List (SS×Int)) (_:List SS) (r:(List (SS×Int))):List AObj:=[.mp .string (qH PV.str (PV.int .i64) r) none]
def vX (n:Nat) (a:List SS) (b:SS) (c:List SS×Int×List (SS×Int)->Option ((List (SS×Int)))) (d:Int):List (SS×Int)->Option ((List (SS×Int))):=fun e=>
 chk (decide ((qi (a++[b])).length * 16<=140737488355328)) (
 c ((a++[b]),(kwr .i64 (d+1)),e))
def vk (n:Nat) (a:SS) (b f g:List SS) (i:List qe) (l:Int) (m:Bool) (o:Int) (p:SS) (q:List Val) (s:List SS) (c:List SS×Int×List (SS×Int)->Option ((List (SS×Int)))) (d:Int):List (SS×Int)->Option ((List (SS×Int))):=fun e=>
 bnd (qD (!(a==([]:SS))) (zP n b a)) fun j=>
 bif(bif(a==([]:SS))then true else(!j))then(
 bnd (nN n (qt.mk a f g i) (Val.mk l m o p q s)) fun k=>
 vX n b a c d (db k (1:Int) e))
 else(
 vX n b a c d e)
def xU (n:Nat) (q:List qt) (w:List qy) (j:Int) (k:Bool) (l:Int) (m:SS) (o:List Val) (p:List SS) (u:List SS×Int×List (SS×Int)->Option ((List (SS×Int)))) (v:Int):LK (List SS×Int×List (SS×Int)) ((List (SS×Int))):=fun d (b,a,c)=>
 bif(decide (a<((qt.rows q).length:Int)))then(
 bnd (idx q a) fun⟨e,f,g,i⟩=>
 bif(decide (a>0))then(
 bnd (idx w (kwr .i64 (a - 1))) fun⟨_,s,_,_,_⟩=>
 bif(s==([]:SS))then(
 vk n e b f g i j k l m o p d a (db ([88]:SS) (1:Int) c))
 else(
 bnd (dt n s) fun t=>
 chk (decide (((([84,58]:SS).length+t.length:Nat):Int)<=xr)) (
 vk n e b f g i j k l m o p d a (db (([84,58]:SS)++t) (1:Int) c))))
 else(
 vk n e b f g i j k l m o p d a c))
 else(
 u (b,(kwr .i64 (v+1)),c))
def uA (n:Nat) (b:List zx) (i:Int) (j:Bool) (k:Int) (l:SS) (m:List Val) (o:List SS):LK (List SS×Int×List (SS×Int)) ((List (SS×Int))):=fun d (e,a,c)=>
 bif(decide (a<((zx.rows b).length:Int)))then(
 bnd (idx b a) fun⟨f,g⟩=>
 qo (xU n f g i j k l m o d a) n (e,(0:Int),c))
 else(
 some c)
def pL (n:Nat) (b:List zx) (a:Val) (k:List (SS×Int)) (c:List SS):Option ((List (SS×Int))):=
 match a with
 | ⟨d,e,f,g,i,j⟩=>
 qo (uA n b d e f g i j) n (c,(0:Int),k)
theorem FC (n:Nat):∀ (b:List zx) (u:Val) (t:List (SS×Int)) (q:List SS) (r:(List (SS×Int))),pL n b u t q=some r->vA TP 27 [.mref 0,.p (PV.sl (zx.rows b)),.tsl 1 (qi q),.p (PV.agg (gM.cells u))] [.mp .string (qH PV.str (PV.int .i64) t) none,.tail 9 1 (qi q).length] 1 (fun v lo=>v=Ba t q r/\lo=CS t q r):=by
 intro b u t q r h;obtain⟨i,j,k,l,m,o⟩:=u;unfold pL at h;refine zO Tryz.call27 Tryz.func27 [1000000] ?_;conv=>whnf
 refine qX.fn [1000000] (S:=List SS×Int×List (SS×Int)) (fun(x,f,A)=>[(0,.mref 0),(2,.tsl 1 (qi x)),(7,.ptr 2 0),(13,pP b),(14,.p (.int .i64 ((zx.rows b).length:Int))),(15,pI f)]) (fun(x,f,A)=>[.mp .string (qH PV.str (PV.int .i64) A) none,.tail 9 1 (qi x).length,.box 28 [pI i,pB j,pI k,pS l,pV m,pT o]]) (B:=uA n b i j k l m o) h (wk [0,1,2] []) ?_;intro R st h;obtain⟨x,f,A⟩:=st;unfold uA at h;conv=>whnf
 apply ifc h<;>intro w h
 ·conv=>whnf
  refine bq h fun⟨d,y⟩ P h=>⟨_,Codec.at_ pb P,?_⟩;conv=>whnf
  refine qX.fn [1000000] (S:=List SS×Int×List (SS×Int)) (fun(a,g,e)=>[(0,.mref 0),(2,.tsl 1 (qi a)),(7,.ptr 2 0),(9,.ptr 3 0),(13,pP b),(14,.p (.int .i64 ((zx.rows b).length:Int))),(15,pI f),(20,pN d),(21,.p (.int .i64 ((qt.rows d).length:Int))),(22,pI g)]) (fun(a,g,e)=>[.mp .string (qH PV.str (PV.int .i64) e) none,.tail 9 1 (qi a).length,.box 28 [pI i,pB j,pI k,pS l,pV m,pT o],.box 60 [pN d,pG y]]) (B:=xU n d y i j k l m o R f) h (wk [0,1,2,3] []) ?_;intro H st h;obtain⟨a,g,e⟩:=st;unfold xU at h;conv=>whnf
  apply ifc h<;>intro w h
  ·conv=>whnf
   refine bq h fun⟨c,C,D,E⟩ O h=>⟨_,Codec.at_ gO O,?_⟩;conv=>whnf
   refine cY.cut (S:=List (SS×Int)) (fun s=>[(0,.mref 0),(2,.tsl 1 (qi a)),(7,.ptr 2 0),(9,.ptr 3 0),(11,.ptr 4 0),(13,pP b),(14,.p (.int .i64 ((zx.rows b).length:Int))),(15,pI f),(20,pN d),(21,.p (.int .i64 ((qt.rows d).length:Int))),(22,pI g)]) (fun s=>[.mp .string (qH PV.str (PV.int .i64) s) none,.tail 9 1 (qi a).length,.box 28 [pI i,pB j,pI k,pS l,pV m,pT o],.box 60 [pN d,pG y],.box 62 [pS c,pT C,pT D,pE E]]) (vk n c a C D E i j k l m o H g) (r:=r) ?_ ?_
   ·intro s h
    unfold vk at h;(conv=>whnf);refine cY.cut (S:=List (SS×Int)) (fun z=>[(0,.mref 0),(2,.tsl 1 (qi a)),(7,.ptr 2 0),(9,.ptr 3 0),(11,.ptr 4 0),(13,pP b),(14,.p (.int .i64 ((zx.rows b).length:Int))),(15,pI f),(20,pN d),(21,.p (.int .i64 ((qt.rows d).length:Int))),(22,pI g)]) (fun z=>[.mp .string (qH PV.str (PV.int .i64) z) none,.tail 9 1 (qi a).length,.box 28 [pI i,pB j,pI k,pS l,pV m,pT o],.box 60 [pN d,pG y],.box 62 [pS c,pT C,pT D,pE E]]) (vX n a c H g) (r:=r) ?_ ?_
    ·intro z h
     unfold vX at h;(conv=>whnf);refine⟨Codec.one cc [c],qi [c],.inl rfl,?_⟩;(conv=>whnf);rw[show qi a++qi [c]=qi (a++[c])from Codec.append cc a [c]];(conv=>whnf);obtain⟨G,h⟩:=qg h;refine⟨⟨Codec.wide cc (a++[c]),kod G,xj G (by decide)⟩,?_⟩;(conv=>whnf);refine⟨⟨rfl,rfl,rfl⟩,?_⟩;(conv=>whnf);exact⟨((a++[c]),(kwr .i64 (g+1)),z),h,wk [0,5,2,3] []⟩
    (conv=>whnf);refine⟨id,?_⟩
    (conv=>whnf);refine⟨id,id,?_⟩
    (conv=>whnf);refine bq h fun _ K h=>?_
    refine⟨_,fun Q=>(fZ n _ _ _ (qa K Q)),?_⟩;(conv=>whnf);refine⟨id,id,?_⟩;(conv=>whnf);apply ifc h<;>intro w h
    ·conv=>whnf
     refine bq h fun I J h=>⟨_,(Mo n _ _ _ J),?_⟩;(conv=>whnf);refine⟨_,vz xD (PV.int .i64) I (1:Int) s,?_⟩;(conv=>whnf);exact⟨(db I (1:Int) s),h,wk [0,1,2,3,4] []⟩
    (conv=>whnf);exact⟨s,h,wk [0,1,2,3,4] []⟩
   conv=>whnf
   apply ifc h<;>intro w h
   ·conv=>whnf
    refine bq h fun⟨_,_,_,_,_⟩ N h=>⟨_,Codec.at_ cZ N,?_⟩;(conv=>whnf);apply ifc h<;>intro w h
    ·conv=>whnf
     refine⟨_,vz xD (PV.int .i64) ([88]:SS) (1:Int) e,?_⟩;(conv=>whnf);exact⟨(db ([88]:SS) (1:Int) e),h,wk [0,1,2,3,4] []⟩
    (conv=>whnf);refine bq h fun F M h=>?_
    refine⟨_,(mV n _ _ M),?_⟩;(conv=>whnf);obtain⟨L,h⟩:=qg h;refine⟨(kod L:((([84,58]:SS).length+F.length:Nat):Int)<=xr),?_⟩;(conv=>whnf);refine⟨_,vz xD (PV.int .i64) (([84,58]:SS)++F) (1:Int) e,?_⟩;(conv=>whnf);exact⟨(db (([84,58]:SS)++F) (1:Int) e),h,wk [0,1,2,3,4] []⟩
   conv=>whnf
   exact⟨e,h,wk [0,1,2,3,4] []⟩
  conv=>whnf
  exact⟨(a,(kwr .i64 (f+1)),e),h,wk [0,1,2] []⟩
 obtain rfl:=sj h;conv=>whnf
 refine⟨_,_,⟨rfl,rfl⟩,wk [0] []⟩
theorem qln:∀ a b:SS,Op.bytesLess a b=decide (a<b)
 | [],[]=>by simp[Op.bytesLess]
 | [],_::_=>by simp[Op.bytesLess]
 | _::_,[]=>by simp[Op.bytesLess]
 | x::xs,y::ys=>by
  have ih:=qln xs ys;simp only[Op.bytesLess,ih];by_cases h:x<y
  ·simp[h,List.cons_lt_cons_iff]
  by_cases c:x=y
  ·subst c; simp[List.cons_lt_cons_iff]
  simp[h,c,List.cons_lt_cons_iff]
def qmr (s:SS):List SS->List SS
 | []=>[s]
 | x::l=>bif Op.bytesLess x s then x::qmr s l else s::x::l
def qdq:List SS->List SS
 | []=>[]
 | s::l=>qmr s (qdq l)
theorem Ns (s:SS):∀ l,(qmr s l).Perm (s::l)
 | []=>.refl _
 | x::l=>by
  unfold qmr;cases Op.bytesLess x s with
  | false=>exact .refl _
  | true=>exact((Ns s l).cons x).trans (.swap _ _ _)
theorem Sd:∀ l,(qdq l).Perm l
 | []=>.refl _
 | s::l=>(Ns s _).trans ((Sd l).cons s)
theorem qfr (s:SS):∀ l:List SS,l.Pairwise (· <= ·)->(qmr s l).Pairwise (· <= ·)
 | [],_=>by simp[qmr]
 | x::l,h=>by
  have h':=List.pairwise_cons.1 h;unfold qmr;rw[qln];by_cases hx:x<s
  ·rw[kdt hx]
   refine List.pairwise_cons.2 ⟨fun y hy=>?_,qfr s l h'.2⟩;rcases List.mem_cons.1 ((Ns s l).mem_iff.1 hy)with rfl|hy
   ·exact Std.le_of_lt hx
   exact h'.1 y hy
  rw[kdf hx];have hsx:s<=x:=List.not_lt.1 hx;refine List.pairwise_cons.2 ⟨fun y hy=>?_,h⟩;rcases List.mem_cons.1 hy with rfl|hy
  ·exact hsx
  exact Std.le_trans hsx (h'.1 y hy)
theorem qb6:∀ l,(qdq l).Pairwise (· <= ·)
 | []=>.nil
 | s::l=>qfr s _ (qb6 l)
theorem qb5 (l:List SS):qdq l=Qn l:=by
 have htr:∀ x y z:SS,decide (x<=y)=true->decide (y<=z)=true->decide (x<=z)=true:=fun x y z a b=>by
  simp only[kde]at *;exact Std.le_trans a b
 have hto:∀ x y:SS,(decide (x<=y)||decide (y<=x))=true:=fun x y=>by
  simp only[Bool.or_eq_true,kde];exact Std.le_total
 have p:(qdq l).Perm (Qn l):=(Sd l).trans (List.mergeSort_perm l _).symm;refine List.Perm.eq_of_pairwise (le:=fun x y=>decide (x<=y)=true) ?_ ((qb6 l).imp fun h=>kdt h) (List.pairwise_mergeSort htr hto l) p;intro x y _ _ a b;simp only[kde]at a b;exact Std.le_antisymm a b
abbrev BY (x:List (SS×Int)) (r:List SS):FV:=pT r
abbrev BS (x:List (SS×Int)) (r:List SS):List AObj:=[.mp .string (qH PV.str (PV.int .i64) x) none]
def cq (n:Nat) (x:List (SS×Int)):Option (List SS):=
 chk (decide (x.length * 16<=140737488355328)) (some (qdq (x.map fun e=>e.1)))
theorem Xb (n:Nat):∀ (x:List (SS×Int)) (r:List SS),cq n x=some r->vA TP 29 [.mref 0] [.mp .string (qH PV.str (PV.int .i64) x) none] 1 (fun v lo=>v=BY x r/\lo=BS x r):=by
 intro x r h;obtain⟨a,h⟩:=qg h;obtain rfl:=sj h;rw[qb5];exact qc6 (fun _ _=>Tryz.call29 _ _) Tryz.func29 qnq (fun _ _=>Tryz.call59 _ _) qrp rfl rfl (by decide) (by decide) ⟨rfl,rfl,rfl⟩ ⟨rfl,rfl,rfl⟩ ⟨rfl,rfl,rfl⟩ ⟨rfl,rfl,rfl⟩ ⟨rfl,rfl,rfl⟩ ⟨rfl,rfl,rfl⟩ ⟨rfl,rfl,rfl⟩ ⟨rfl,rfl,rfl⟩ ⟨rfl,rfl,rfl⟩ ⟨rfl,rfl,rfl⟩ ⟨rfl,rfl,rfl⟩ ⟨rfl,rfl,rfl⟩ ⟨rfl,rfl,rfl⟩ ⟨rfl,rfl,rfl⟩ ⟨rfl,rfl,rfl⟩ ⟨_,rfl,rfl,rfl⟩ ⟨rfl,rfl,rfl⟩ ⟨rfl,rfl,rfl⟩ x (kod a)
abbrev MH (r:List SS×Int):PV:=PV.tup [PV.sl (qi r.1),PV.int .i64 r.2]
def ch (n:Nat) (a:Int×List (SS×Int)->Option (List SS×Int)) (b:Int):List (SS×Int)->Option (List SS×Int):=fun c=>
 a ((kwr .i64 (b+1)),c)
def cm (n:Nat) (d:List SS) (f:List zx) (g:Int) (i:Bool) (l:Int) (m:SS) (o:List Val) (p:List SS) (c:List (SS×Int)) (a:Int×List (SS×Int)->Option (List SS×Int)) (b e:Int):Bool->Option (List SS×Int):=fun j=>
 bif j then(
 chk (decide ((qi d).length * 16<=140737488355328)) (
 bnd (pL n f (Val.mk g i l m o p) c d) fun k=>
 ch n a b k))
 else(
 bif(e==8)then(
 ch n a b (db ([88]:SS) (1:Int) c))
 else(
 ch n a b c))
def cn (n:Nat) (c:List qd) (g:Int) (i:Bool) (l:Int) (m:SS) (o:List Val) (p:List SS):LK (Int×List (SS×Int)) (List SS×Int):=fun e (a,d)=>
 bif(decide (a<((qd.rows c).length:Int)))then(
 bnd (idx c a) fun⟨b,f,_,⟨_,_,⟨_,_,_,_,_,_⟩,_,_⟩,_,_,_,_,_,_,_,_,_⟩=>
 bnd (bQ n (bu.mk c) a) fun⟨j,_,k⟩=>
 bif(k != 0)then(
 some (([]:List SS),k))
 else(
 bif(b==1)then(
 cm n j f g i l m o p d e a b (b==1))
 else(
 cm n j f g i l m o p d e a b (b==5))))
 else(
 bnd (cq n d) fun q=>
 some (q,(0:Int)))
def fh (n:Nat) (c:bu) (d:Val):Option (List SS×Int):=
 match c,d with
 | ⟨a⟩,⟨e,f,g,i,j,k⟩=>
 bnd (tB n (bu.mk a)) fun⟨_,b⟩=>
 bif(b != 0)then(
 some (([]:List SS),b))
 else(
 qo (cn n a e f g i j k) n ((0:Int),([]:List (SS×Int))))
theorem sw (n:Nat):∀ (o:bu) (q:Val) (r:List SS×Int),fh n o q=some r->qb TP 9 [PV.agg (Cn.cells o),PV.agg (gM.cells q)] (MH r):=by
 intro o q r h;obtain⟨a⟩:=o;obtain⟨d,e,f,g,i,j⟩:=q;unfold fh at h;refine zN Tryz.call9 Tryz.func9 [27,28,29,40000014,86000028,1000000] ?_;conv=>whnf
 refine bq h fun⟨_,_⟩ Y h=>⟨_,(HQ n _ _ Y),?_⟩;conv=>whnf
 apply ifc h<;>intro l h
 ·obtain rfl:=sj h
  conv=>whnf
  try exact fin
 conv=>whnf
 refine qX.fn [27,28,29,40000014,86000028,1000000] (S:=Int×List (SS×Int)) (fun(c,b)=>[(2,.ptr 0 0),(3,.ptr 1 0),(8,.mref 2),(24,pC a),(25,.p (.int .i64 ((qd.rows a).length:Int))),(26,pI c)]) (fun(c,b)=>[.box 24 [pC a],.box 28 [pI d,pB e,pI f,pS g,pV i,pT j],.mp .string (qH PV.str (PV.int .i64) b) none]) (B:=cn n a d e f g i j) h (wk [0,1,2] []) ?_;intro v st h;obtain⟨c,b⟩:=st;unfold cn at h;conv=>whnf
 apply ifc h<;>intro l h
 ·conv=>whnf
  refine cY.cut (S:=List (SS×Int)) (fun s=>[(2,.ptr 0 0),(3,.ptr 1 0),(8,.mref 2),(24,pC a),(25,.p (.int .i64 ((qd.rows a).length:Int))),(26,pI c)]) (fun s=>[.box 24 [pC a],.box 28 [pI d,pB e,pI f,pS g,pV i,pT j],.mp .string (qH PV.str (PV.int .i64) s) none]) (ch n v c) (r:=r) ?_ ?_
  ·intro s h
   unfold ch at h;conv=>whnf
   exact⟨((kwr .i64 (c+1)),s),h,wk [0,1,2] []⟩
  conv=>whnf
  refine bq h fun⟨k,t,w,⟨x,y,⟨z,A,C,D,E,F⟩,G,H⟩,I,J,K,L,M,N,O,P,Q⟩ W h=>⟨_,Codec.at_ xN W,?_⟩;conv=>whnf
  refine bq h fun⟨m,_,_⟩ V h=>⟨_,(UD n _ _ _ V),?_⟩;conv=>whnf
  apply ifc h<;>intro l h
  ·obtain rfl:=sj h
   conv=>whnf
   try exact fin
  conv=>whnf
  refine cY.cut (S:=Bool) (fun u=>[(2,.ptr 0 0),(3,.ptr 1 0),(8,.mref 2),(10,.ptr 3 0),(11,pT m),(24,pC a),(25,.p (.int .i64 ((qd.rows a).length:Int))),(26,pI c),(42,pI k),(43,pB u)]) (fun u=>[.box 24 [pC a],.box 28 [pI d,pB e,pI f,pS g,pV i,pT j],.mp .string (qH PV.str (PV.int .i64) b) none,.box 54 [pI k,pP t,pE w,pI x,pS y,pI z,pB A,pI C,pS D,pV E,pT F,pT G,pE H,pS I,pA J,pB K,pO L,pE M,pE N,pU O,pT P,pB Q]]) (cm n m t d e f g i j b v c k) (r:=r) ?_ ?_
  ·intro u h
   unfold cm at h;conv=>whnf
   apply ifc h<;>intro l h
   ·conv=>whnf
    obtain⟨U,h⟩:=qg h;refine⟨.tsl 4 (qi m),[.tail 9 1 (qi m).length],Zd (LA m (kod U)) [] [] (by rintro _ _ ⟨rfl,rfl⟩; exact⟨_,_,rfl,rfl,rfl,rfl⟩),?_⟩;(conv=>whnf);refine bq h fun R T h=>⟨.p (.tup []),[.box 24 [pC a],.box 28 [pI d,pB e,pI f,pS g,pV i,pT j],.mp .string (qH PV.str (PV.int .i64) R) none,.box 54 [pI k,pP t,pE w,pI x,pS y,pI z,pB A,pI C,pS D,pV E,pT F,pT G,pE H,pS I,pA J,pB K,pO L,pE M,pE N,pU O,pT P,pB Q],.dead],Zd (FC n _ _ _ _ _ T) [2,4] [] (by rintro _ _ ⟨rfl,rfl⟩; exact⟨_,_,rfl,rfl,rfl,rfl⟩),?_⟩;(conv=>whnf);exact⟨R,h,wk [0,1,2] []⟩
   conv=>whnf
   apply ifc h<;>intro l h
   ·conv=>whnf
    refine⟨_,vz xD (PV.int .i64) ([88]:SS) (1:Int) b,?_⟩;(conv=>whnf);exact⟨(db ([88]:SS) (1:Int) b),h,wk [0,1,2] []⟩
   conv=>whnf
   exact⟨b,h,wk [0,1,2] []⟩
  conv=>whnf
  apply ifc h<;>intro l h
  ·conv=>whnf
   exact⟨(k==1),h,wk [0,1,2,3] []⟩
  conv=>whnf
  exact⟨(k==5),h,wk [0,1,2,3] []⟩
 conv=>whnf
 refine bq h fun Z X h=>?_;refine Zd (Xb n _ _ X) [2] [] ?_;rintro _ _ ⟨rfl,rfl⟩;refine⟨pT Z,[.box 24 [pC a],.box 28 [pI d,pB e,pI f,pS g,pV i,pT j],.mp .string (qH PV.str (PV.int .i64) b) none],rfl,rfl,?_⟩;obtain rfl:=sj h;conv=>whnf
 try exact fin
abbrev CW (r:Bool):PV:=PV.bool r
def dZ (n:Nat) (a:Int):Option (Bool):=
 some (a != a)
theorem Zh (n:Nat):∀ (a:Int) (r:Bool),dZ n a=some r->qb TP 245 [PV.int .i64 a] (CW r):=by
 intro a r h;unfold dZ at h;refine zN Tryz.call245 Tryz.func245 [1000000] ?_;obtain rfl:=sj h;conv=>whnf
 try exact fin
abbrev GA (r:Int):PV:=PV.int .i64 r
def uZ (n:Nat) (a b:Int):Option (Int):=
 bnd (dZ n a) fun d=>
 bnd (dZ n b) fun c=>
 bif d then(
 bif c then(
 some (0:Int))
 else(
 some (-1:Int)))
 else(
 bif c then(
 some (1:Int))
 else(
 bif(decide (a<b))then(
 some (-1:Int))
 else(
 bif(decide (a>b))then(
 some (1:Int))
 else(
 some (0:Int)))))
theorem tT (n:Nat):∀ (b c r:Int),uZ n b c=some r->qb TP 202 [PV.int .i64 b,PV.int .i64 c] (GA r):=by
 intro b c r h;unfold uZ at h;refine zN Tryz.call202 Tryz.func202 [1000000] ?_;conv=>whnf
 refine bq h fun _ e h=>⟨_,(Zh n _ _ e),?_⟩;conv=>whnf
 refine bq h fun _ d h=>⟨_,(Zh n _ _ d),?_⟩;conv=>whnf
 apply ifc h<;>intro a h
 ·conv=>whnf
  apply ifc h<;>intro a h
  ·obtain rfl:=sj h
   conv=>whnf
   try exact fin
  obtain rfl:=sj h;conv=>whnf
  try exact fin
 conv=>whnf
 apply ifc h<;>intro a h
 ·obtain rfl:=sj h
  conv=>whnf
  try exact fin
 conv=>whnf
 apply ifc h<;>intro a h
 ·obtain rfl:=sj h
  conv=>whnf
  try exact fin
 conv=>whnf
 apply ifc h<;>intro a h
 ·obtain rfl:=sj h
  conv=>whnf
  try exact fin
 obtain rfl:=sj h;conv=>whnf
 try exact fin
abbrev Lo (r:Int):PV:=PV.int .i64 r
def Qs (n:Nat) (a:Node):Option (Int):=
 match a with
 | ⟨b,_,_,_⟩=>
 some b
theorem Eb (n:Nat):∀ (a:Node) (r:Int),Qs n a=some r->qb TP 124 [PV.agg (tk.cells a)] (Lo r):=by
 intro a r h;obtain⟨_,_,_,_⟩:=a;unfold Qs at h;refine zN Tryz.call124 Tryz.func124 [1000000] ?_;obtain rfl:=sj h;conv=>whnf
 try exact fin
abbrev Xf (r:Int):PV:=PV.int .i64 r
def xR (n:Nat) (a:Node) (f:Int) (_:Unit):Option (Int):=
 match a with
 | ⟨b,c,d,e⟩=>
 bnd (Qs n (Node.mk b c d e)) fun g=>
 bnd (uZ n g f) fun i=>
 some i
theorem nk (n:Nat):∀ (a:Node) (b:Int) (c:Unit) (r:Int),xR n a b c=some r->qb TP 201 [PV.agg (tk.cells a),PV.int .i64 b,PV.hp [PV.fn 124]] (Xf r):=by
 intro a b c r h;obtain⟨_,_,_,_⟩:=a;unfold xR at h;refine zN Tryz.call201 Tryz.func201 [1000000] ?_;conv=>whnf
 refine bq h fun _ e h=>⟨_,(Eb n _ _ e),?_⟩;conv=>whnf
 refine bq h fun _ d h=>⟨_,(tT n _ _ _ d),?_⟩;obtain rfl:=sj h;conv=>whnf
 try exact fin
abbrev vf (r:Int×Bool):PV:=PV.tup [PV.int .i64 r.1,PV.bool r.2]
def qq (n:Nat) (b:List Node) (e:Int):LK (Int×Int) (Int×Bool):=fun d (a,c)=>
 bif(decide (a<c))then(
 bnd (idx b (kwr .i64 (Int.fdiv (kwr .u64 (kwr .i64 (a+c))) (2 ^ (min (Int.toNat (1:Int)) IntKind.u64.bits))))) fun⟨m,o,p,q⟩=>
 bnd (xR n (Node.mk m o p q) e ()) fun f=>
 bif(decide (f<0))then(
 d ((kwr .i64 ((kwr .i64 (Int.fdiv (kwr .u64 (kwr .i64 (a+c))) (2 ^ (min (Int.toNat (1:Int)) IntKind.u64.bits))))+1)),c))
 else(
 d (a,(kwr .i64 (Int.fdiv (kwr .u64 (kwr .i64 (a+c))) (2 ^ (min (Int.toNat (1:Int)) IntKind.u64.bits)))))))
 else(
 bnd (qD (decide (a<((Node.rows b).length:Int))) (idx b a)) fun⟨g,i,j,k⟩=>
 bnd (qD (decide (a<((Node.rows b).length:Int))) (xR n (Node.mk g i j k) e ())) fun l=>
 some (a,(bif(decide (a<((Node.rows b).length:Int)))then(l==0)else false)))
def qK (n:Nat) (a:List Node) (b:Int) (_:Unit):Option (Int×Bool):=
 qo (qq n a b) n ((0:Int),((Node.rows a).length:Int))
theorem vd (n:Nat):∀ (a:List Node) (d:Int) (f:Unit) (r:Int×Bool),qK n a d f=some r->qb TP 200 [PV.sl (Node.rows a),PV.int .i64 d,PV.clo 201 [PV.hp [PV.fn 124]]] (vf r):=by
 intro a d f r h;unfold qK at h;refine zN Tryz.call200 Tryz.func200 [1000000] ?_;conv=>whnf
 refine qX.fn [1000000] (S:=Int×Int) (fun(b,c)=>[(0,.p (.sl (Node.rows a))),(1,pI d),(2,.p (.clo 201 [PV.hp [PV.fn 124]])),(8,.p (.int .i64 ((Node.rows a).length:Int))),(9,pI b),(10,pI c)]) (fun(b,c)=>[]) (B:=qq n a d) h (wk [] []) ?_;intro _ st h;obtain⟨b,c⟩:=st;unfold qq at h;conv=>whnf
 apply ifc h<;>intro l h
 ·conv=>whnf
  refine⟨by unfold gI; decide,?_⟩;conv=>whnf
  refine bq h fun⟨_,_,_,_⟩ i h=>⟨_,Codec.at_ tk i,?_⟩;conv=>whnf
  refine bq h fun _ g h=>⟨_,(nk n _ _ _ _ g),?_⟩;conv=>whnf
  apply ifc h<;>intro l h
  ·conv=>whnf
   exact⟨((kwr .i64 ((kwr .i64 (Int.fdiv (kwr .u64 (kwr .i64 (b+c))) (2 ^ (min (Int.toNat (1:Int)) IntKind.u64.bits))))+1)),c),h,wk [] []⟩
  conv=>whnf
  exact⟨(b,(kwr .i64 (Int.fdiv (kwr .u64 (kwr .i64 (b+c))) (2 ^ (min (Int.toNat (1:Int)) IntKind.u64.bits))))),h,wk [] []⟩
 conv=>whnf
 refine⟨id,id,?_⟩;conv=>whnf
 refine bq h fun⟨_,_,_,_⟩ k h=>⟨_,fun e=>Codec.at_ tk (qa k e),?_⟩;conv=>whnf
 refine⟨id,id,id,id,?_⟩;conv=>whnf
 refine bq h fun _ j h=>⟨_,fun e=>(nk n _ _ _ _ (qa j e)),?_⟩;conv=>whnf
 refine⟨id,id,?_⟩;obtain rfl:=sj h;conv=>whnf
 try exact fin
abbrev rP (r:Int×Bool):PV:=PV.tup [PV.int .i64 r.1,PV.bool r.2]
def xK (n:Nat) (a:List Node) (b:Int):Option (Int×Bool):=
 bnd (qK n a b ()) fun⟨c,d⟩=>
 some (c,d)
theorem pH (n:Nat):∀ (a:List Node) (b:Int) (r:Int×Bool),xK n a b=some r->qb TP 123 [PV.sl (Node.rows a),PV.int .i64 b,PV.fn 124] (rP r):=by
 intro a b r h;unfold xK at h;refine zN Tryz.call123 Tryz.func123 [10000005,1000000] ?_;conv=>whnf
 refine bq h fun⟨_,_⟩ c h=>⟨_,(vd n _ _ _ _ c),?_⟩;obtain rfl:=sj h;conv=>whnf
 try exact fin
abbrev Lm (r:List SS×List Val):PV:=PV.tup [PV.sl (qi r.1),PV.sl (Val.rows r.2)]
def ga (n:Nat) (k:List Val) (c:List SS):LK (List Val×Int) (List SS×List Val):=fun l (a,b)=>
 bif(decide (b<((Val.rows k).length:Int)))then(
 bnd (idx k b) fun⟨p,q,s,t,m,o⟩=>
 bnd (fu n (Val.mk p q s t m o)) fun⟨d,e,f,g,i,j⟩=>
 chk (decide ((Val.rows (a++[Val.mk d e f g i j])).length * 88<=140737488355328)) (
 l ((a++[Val.mk d e f g i j]),(kwr .i64 (b+1)))))
 else(
 chk (decide ((qi c).length * 16<=140737488355328)) (
 some (c,a)))
def mP (n:Nat) (b:List SS) (a:List Val):Option (List SS×List Val):=
 bnd (LL ((Val.rows a).length:Int)) fun c=>
 chk (decide (c * 88<=140737488355328)) (
 qo (ga n a b) n (([]:List Val),(0:Int)))
theorem Vv (n:Nat):∀ (b:List SS) (j:List Val) (r:List SS×List Val),mP n b j=some r->qb TP 203 [PV.sl (qi b),PV.sl (Val.rows j)] (Lm r):=by
 intro b j r h;unfold mP at h;refine zN Tryz.call203 Tryz.func203 [28,1000000] ?_;conv=>whnf
 refine bq h fun v t h=>?_;have u:=gK t;conv=>whnf
 obtain⟨m,h⟩:=qg h;refine⟨v,⟨rfl,u,kod m,xj m (by decide)⟩,?_⟩;conv=>whnf
 refine qX.fn [28,1000000] (S:=List Val×Int) (fun(a,k)=>[(0,pT b),(6,.tsl 0 (Val.rows a)),(12,pV j),(13,.p (.int .i64 ((Val.rows j).length:Int))),(14,pI k)]) (fun(a,k)=>[.tail 28 6 (Val.rows a).length]) (B:=ga n j b) h (wk [0] []) ?_;intro _ st h;obtain⟨a,k⟩:=st;unfold ga at h;conv=>whnf
 apply ifc h<;>intro _ h
 ·conv=>whnf
  refine bq h fun⟨_,_,_,_,_,_⟩ q h=>⟨_,Codec.at_ gM q,?_⟩;conv=>whnf
  refine bq h fun⟨c,d,e,f,g,i⟩ o h=>⟨_,(Gv n _ _ o),?_⟩;conv=>whnf
  refine⟨Codec.one gM [Val.mk c d e f g i],Val.rows [Val.mk c d e f g i],.inl rfl,?_⟩;conv=>whnf
  rw[show Val.rows a++Val.rows [Val.mk c d e f g i]=Val.rows (a++[Val.mk c d e f g i])from Codec.append gM a [Val.mk c d e f g i]];conv=>whnf
  obtain⟨l,h⟩:=qg h;refine⟨⟨Codec.wide gM (a++[Val.mk c d e f g i]),kod l,xj l (by decide)⟩,?_⟩;conv=>whnf
  refine⟨⟨rfl,rfl,rfl⟩,?_⟩;conv=>whnf
  exact⟨((a++[Val.mk c d e f g i]),(kwr .i64 (k+1))),h,wk [2] []⟩
 conv=>whnf
 obtain⟨s,h⟩:=qg h;refine Zd (LA b (kod s)) [] [] ?_;rintro _ _ ⟨rfl,rfl⟩;refine⟨.tsl 1 (qi b),[.tail 28 6 (Val.rows a).length,.tail 9 1 (qi b).length],rfl,rfl,?_⟩;obtain rfl:=sj h;conv=>whnf
 try exact fin
abbrev BX (r:Node):PV:=PV.agg (tk.cells r)
def mc (n:Nat) (b:Node):Option (Node):=
 match b with
 | ⟨c,a,d,e⟩=>
 chk (decide ((qi a).length * 16<=140737488355328)) (
 bnd (mP n d e) fun⟨f,g⟩=>
 some (Node.mk c a f g))
theorem CK (n:Nat):∀ (a r:Node),mc n a=some r->qb TP 125 [PV.agg (tk.cells a)] (BX r):=by
 intro a r h;obtain⟨e,b,f,g⟩:=a;unfold mc at h;refine zN Tryz.call125 Tryz.func125 [28,1000000] ?_;conv=>whnf
 obtain⟨d,h⟩:=qg h;refine Zd (LA b (kod d)) [] [] ?_;rintro _ _ ⟨rfl,rfl⟩;refine⟨.tsl 2 (qi b),[.box 74 [pI e,pT b,pT f,pV g],.box 74 [zq0,zq2,zq2,zq2],.tail 9 1 (qi b).length],rfl,rfl,?_⟩;conv=>whnf
 refine bq h fun⟨_,_⟩ c h=>⟨_,(Vv n _ _ _ c),?_⟩;obtain rfl:=sj h;conv=>whnf
 try exact fin
abbrev Ra (r:Node×Bool):PV:=PV.tup [PV.agg (tk.cells r.1),PV.bool r.2]
def QN (n:Nat) (b:Graph) (g:Int):Option (Node×Bool):=
 match b with
 | ⟨a,_⟩=>
 bnd (xK n a g) fun⟨i,j⟩=>
 bif(!j)then(
 some (Node.mk (0:Int) ([]:List SS) ([]:List SS) ([]:List Val),false))
 else(
 bnd (idx a i) fun⟨k,l,m,o⟩=>
 bnd (mc n (Node.mk k l m o)) fun⟨c,d,e,f⟩=>
 some (Node.mk c d e f,true))
theorem Mn (n:Nat):∀ (a:Graph) (b:Int) (r:Node×Bool),QN n a b=some r->qb TP 68 [PV.agg (nZ.cells a),PV.int .i64 b] (Ra r):=by
 intro a b r h;obtain⟨_,_⟩:=a;unfold QN at h;refine zN Tryz.call68 Tryz.func68 [1000000] ?_;conv=>whnf
 refine bq h fun⟨_,_⟩ e h=>⟨_,(pH n _ _ _ e),?_⟩;conv=>whnf
 apply ifc h<;>intro _ h
 ·obtain rfl:=sj h
  conv=>whnf
  try exact fin
 conv=>whnf
 refine bq h fun⟨_,_,_,_⟩ d h=>⟨_,Codec.at_ tk d,?_⟩;conv=>whnf
 refine bq h fun⟨_,_,_,_⟩ c h=>⟨_,(CK n _ _ c),?_⟩;obtain rfl:=sj h;conv=>whnf
 try exact fin
abbrev CX (r:Bool):PV:=PV.bool r
def fD (n:Nat) (b c:List SS) (d e:List Val):Option (Bool):=
 bnd (zK n b c) fun a=>
 bnd (qD a (qh n d e)) fun f=>
 some (bif a then f else false)
theorem Zi (n:Nat):∀ (a b:List SS) (c d:List Val) (r:Bool),fD n a b c d=some r->qb TP 129 [PV.sl (qi a),PV.sl (qi b),PV.sl (Val.rows c),PV.sl (Val.rows d)] (CX r):=by
 intro a b c d r h;unfold fD at h;refine zN Tryz.call129 Tryz.func129 [1000000] ?_;conv=>whnf
 refine bq h fun _ f h=>⟨_,(gg n _ _ _ f),?_⟩;conv=>whnf
 refine⟨id,id,?_⟩;conv=>whnf
 refine bq h fun _ e h=>⟨_,fun g=>(vx n _ _ _ (qa e g)),?_⟩;conv=>whnf
 refine⟨id,?_⟩;obtain rfl:=sj h;conv=>whnf
 try exact fin
abbrev Em (r:Bool):PV:=PV.bool r
def nL (n:Nat) (d e:Node):Option (Bool):=
 match d,e with
 | ⟨a,g,i,j⟩,⟨b,k,l,m⟩=>
 bnd (qD (a==b) (zK n g k)) fun c=>
 bnd (qD (bif(a==b)then c else false) (fD n i l j m)) fun f=>
 some (bif(bif(a==b)then c else false)then f else false)
theorem BO (n:Nat):∀ (a b:Node) (r:Bool),nL n a b=some r->qb TP 127 [PV.agg (tk.cells a),PV.agg (tk.cells b)] (Em r):=by
 intro a b r h;obtain⟨_,_,_,_⟩:=a;obtain⟨_,_,_,_⟩:=b;unfold nL at h;refine zN Tryz.call127 Tryz.func127 [1000000] ?_;conv=>whnf
 refine⟨id,id,id,id,?_⟩;conv=>whnf
 refine bq h fun _ e h=>⟨_,fun c=>(gg n _ _ _ (qa e c)),?_⟩;conv=>whnf
 iterate 9 refine⟨id,?_⟩
 conv=>whnf
 refine bq h fun _ d h=>⟨_,fun c=>(Zi n _ _ _ _ _ (qa d c)),?_⟩;conv=>whnf
 refine⟨id,?_⟩;obtain rfl:=sj h;conv=>whnf
 try exact fin
abbrev vI (r:Bool):PV:=PV.bool r
def qB (n:Nat) (b g:List Node):LK (Int) (Bool):=fun c a=>
 bif(decide (a<((Node.rows b).length:Int)))then(
 bnd (idx b a) fun⟨i,j,k,l⟩=>
 bnd (idx g a) fun⟨m,o,d,e⟩=>
 bnd (nL n (Node.mk i j k l) (Node.mk m o d e)) fun f=>
 bif(!f)then(
 some false)
 else(
 c (kwr .i64 (a+1))))
 else(
 some true)
def qF (n:Nat) (a b:List Node):Option (Bool):=
 bif(((Node.rows a).length:Int) != ((Node.rows b).length:Int))then(
 some false)
 else(
 qo (qB n a b) n (0:Int))
theorem vC (n:Nat):∀ (a b:List Node) (r:Bool),qF n a b=some r->qb TP 126 [PV.sl (Node.rows a),PV.sl (Node.rows b),PV.fn 127] (vI r):=by
 intro a b r h;unfold qF at h;refine zN Tryz.call126 Tryz.func126 [1000000] ?_;conv=>whnf
 apply ifc h<;>intro d h
 ·obtain rfl:=sj h
  conv=>whnf
  try exact fin
 conv=>whnf
 refine qX.fn [1000000] (S:=Int) (fun c=>[(1,.p (.sl (Node.rows b))),(2,.p (.fn 127)),(15,.p (.sl (Node.rows a))),(16,.p (.int .i64 ((Node.rows a).length:Int))),(17,pI c)]) (fun c=>[]) (B:=qB n a b) h (wk [] []) ?_;intro _ c h;unfold qB at h;conv=>whnf
 apply ifc h<;>intro d h
 ·conv=>whnf
  refine bq h fun⟨_,_,_,_⟩ g h=>⟨_,Codec.at_ tk g,?_⟩;conv=>whnf
  refine bq h fun⟨_,_,_,_⟩ f h=>⟨_,Codec.at_ tk f,?_⟩;conv=>whnf
  refine bq h fun _ e h=>⟨_,(BO n _ _ _ e),?_⟩;conv=>whnf
  apply ifc h<;>intro d h
  ·obtain rfl:=sj h
   conv=>whnf
   try exact fin
  conv=>whnf
  exact⟨(kwr .i64 (c+1)),h,wk [] []⟩
 obtain rfl:=sj h;conv=>whnf
 try exact fin
abbrev En (r:Bool):PV:=PV.bool r
def nM (n:Nat) (j k:Edge):Option (Bool):=
 match j,k with
 | ⟨a,c,d,e,p,q⟩,⟨f,g,i,b,l,m⟩=>
 bnd (qD (bif(bif(bif(a==f)then(c==g)else false)then(d==i)else false)then(e==b)else false) (fD n p l q m)) fun o=>
 some (bif(bif(bif(bif(a==f)then(c==g)else false)then(d==i)else false)then(e==b)else false)then o else false)
theorem BP (n:Nat):∀ (a b:Edge) (r:Bool),nM n a b=some r->qb TP 131 [PV.agg (tP.cells a),PV.agg (tP.cells b)] (En r):=by
 intro a b r h;obtain⟨_,_,_,_,_,_⟩:=a;obtain⟨_,_,_,_,_,_⟩:=b;unfold nM at h;refine zN Tryz.call131 Tryz.func131 [1000000] ?_;conv=>whnf
 iterate 23 refine⟨id,?_⟩
 conv=>whnf
 refine bq h fun _ c h=>⟨_,fun d=>(Zi n _ _ _ _ _ (qa c d)),?_⟩;conv=>whnf
 refine⟨id,?_⟩;obtain rfl:=sj h;conv=>whnf
 try exact fin
abbrev vH (r:Bool):PV:=PV.bool r
def qA (n:Nat) (b l:List Edge):LK (Int) (Bool):=fun c a=>
 bif(decide (a<((Edge.rows b).length:Int)))then(
 bnd (idx b a) fun⟨m,o,p,q,s,t⟩=>
 bnd (idx l a) fun⟨d,e,f,g,i,j⟩=>
 bnd (nM n (Edge.mk m o p q s t) (Edge.mk d e f g i j)) fun k=>
 bif(!k)then(
 some false)
 else(
 c (kwr .i64 (a+1))))
 else(
 some true)
def qE (n:Nat) (a b:List Edge):Option (Bool):=
 bif(((Edge.rows a).length:Int) != ((Edge.rows b).length:Int))then(
 some false)
 else(
 qo (qA n a b) n (0:Int))
theorem vB (n:Nat):∀ (a b:List Edge) (r:Bool),qE n a b=some r->qb TP 130 [PV.sl (Edge.rows a),PV.sl (Edge.rows b),PV.fn 131] (vH r):=by
 intro a b r h;unfold qE at h;refine zN Tryz.call130 Tryz.func130 [1000000] ?_;conv=>whnf
 apply ifc h<;>intro d h
 ·obtain rfl:=sj h
  conv=>whnf
  try exact fin
 conv=>whnf
 refine qX.fn [1000000] (S:=Int) (fun c=>[(1,.p (.sl (Edge.rows b))),(2,.p (.fn 131)),(15,.p (.sl (Edge.rows a))),(16,.p (.int .i64 ((Edge.rows a).length:Int))),(17,pI c)]) (fun c=>[]) (B:=qA n a b) h (wk [] []) ?_;intro _ c h;unfold qA at h;conv=>whnf
 apply ifc h<;>intro d h
 ·conv=>whnf
  refine bq h fun⟨_,_,_,_,_,_⟩ g h=>⟨_,Codec.at_ tP g,?_⟩;conv=>whnf
  refine bq h fun⟨_,_,_,_,_,_⟩ f h=>⟨_,Codec.at_ tP f,?_⟩;conv=>whnf
  refine bq h fun _ e h=>⟨_,(BP n _ _ _ e),?_⟩;conv=>whnf
  apply ifc h<;>intro d h
  ·obtain rfl:=sj h
   conv=>whnf
   try exact fin
  conv=>whnf
  exact⟨(kwr .i64 (c+1)),h,wk [] []⟩
 obtain rfl:=sj h;conv=>whnf
 try exact fin
abbrev Rb (r:Bool):PV:=PV.bool r
def bz (n:Nat) (b c:Graph):Option (Bool):=
 match b,c with
 | ⟨d,e⟩,⟨f,g⟩=>
 bnd (qF n d f) fun a=>
 bnd (qD a (qE n e g)) fun i=>
 some (bif a then i else false)
theorem Gh (n:Nat):∀ (a b:Graph) (r:Bool),bz n a b=some r->qb TP 69 [PV.agg (nZ.cells a),PV.agg (nZ.cells b)] (Rb r):=by
 intro a b r h;obtain⟨_,_⟩:=a;obtain⟨_,_⟩:=b;unfold bz at h;refine zN Tryz.call69 Tryz.func69 [1000000] ?_;conv=>whnf
 refine bq h fun _ d h=>⟨_,(vC n _ _ _ d),?_⟩;conv=>whnf
 refine⟨id,id,id,id,?_⟩;conv=>whnf
 refine bq h fun _ c h=>⟨_,fun e=>(vB n _ _ _ (qa c e)),?_⟩;conv=>whnf
 refine⟨id,?_⟩;obtain rfl:=sj h;conv=>whnf
 try exact fin
abbrev Bb (_:List (SS×Int)) (r:(List (SS×Int))):FV:=.p (.tup [])
abbrev CT (_:List (SS×Int)) (r:(List (SS×Int))):List AObj:=[.mp .string (qH PV.str (PV.int .i64) r) none]
def vG (n:Nat) (c:List SS) (p:List Val) (s:SS) (d:Int×List (SS×Int)->Option ((List (SS×Int)))) (q:Int):LK (Int×List (SS×Int)) ((List (SS×Int))):=fun e (a,b)=>
 bif(decide (a<((qi c).length:Int)))then(
 bnd (idx c a) fun f=>
 bnd (idx p a) fun⟨g,i,j,k,l,m⟩=>
 bnd (bP n s f (Val.mk g i j k l m)) fun o=>
 e ((kwr .i64 (a+1)),(db o (1:Int) b)))
 else(
 d ((kwr .i64 (q+1)),b))
def uB (n:Nat) (b g:List SS) (i:List Val):LK (Int×List (SS×Int)) ((List (SS×Int))):=fun f (a,c)=>
 bif(decide (a<((qi b).length:Int)))then(
 bnd (idx b a) fun d=>
 bnd (dt n d) fun e=>
 chk (decide (((([76,58]:SS).length+e.length:Nat):Int)<=xr)) (
 qo (vG n g i d f a) n ((0:Int),(db (([76,58]:SS)++e) (1:Int) c))))
 else(
 some c)
def pM (n:Nat) (a:Node) (e:List (SS×Int)):Option ((List (SS×Int))):=
 match a with
 | ⟨_,b,c,d⟩=>
 qo (uB n b c d) n ((0:Int),(db ([65]:SS) (1:Int) e))
theorem FD (n:Nat):∀ (f:Node) (d:List (SS×Int)) (r:(List (SS×Int))),pM n f d=some r->vA TP 70 [.mref 0,.p (PV.agg (tk.cells f))] [.mp .string (qH PV.str (PV.int .i64) d) none] 1 (fun v lo=>v=Bb d r/\lo=CT d r):=by
 intro f d r h;obtain⟨k,a,c,i⟩:=f;unfold pM at h;refine zO Tryz.call70 Tryz.func70 [1000000] ?_;conv=>whnf
 refine⟨_,vz xD (PV.int .i64) ([65]:SS) (1:Int) d,?_⟩;conv=>whnf
 refine qX.fn [1000000] (S:=Int×List (SS×Int)) (fun(e,j)=>[(0,.mref 0),(3,.ptr 1 0),(10,pT a),(11,.p (.int .i64 ((qi a).length:Int))),(12,pI e)]) (fun(e,j)=>[.mp .string (qH PV.str (PV.int .i64) j) none,.box 74 [pI k,pT a,pT c,pV i]]) (B:=uB n a c i) h (wk [0,1] []) ?_;intro z st h;obtain⟨e,j⟩:=st;unfold uB at h;conv=>whnf
 apply ifc h<;>intro y h
 ·conv=>whnf
  refine bq h fun m x h=>⟨_,Codec.at_ cc x,?_⟩;conv=>whnf
  refine bq h fun o w h=>⟨_,(mV n _ _ w),?_⟩;conv=>whnf
  obtain⟨u,h⟩:=qg h;refine⟨(kod u:((([76,58]:SS).length+o.length:Nat):Int)<=xr),?_⟩;conv=>whnf
  refine⟨_,vz xD (PV.int .i64) (([76,58]:SS)++o) (1:Int) j,?_⟩;conv=>whnf
  refine qX.fn [1000000] (S:=Int×List (SS×Int)) (fun(g,b)=>[(0,.mref 0),(3,.ptr 1 0),(5,pS m),(10,pT a),(11,.p (.int .i64 ((qi a).length:Int))),(12,pI e),(21,pT c),(22,.p (.int .i64 ((qi c).length:Int))),(23,pI g)]) (fun(g,b)=>[.mp .string (qH PV.str (PV.int .i64) b) none,.box 74 [pI k,pT a,pT c,pV i]]) (B:=vG n c i m z e) h (wk [0,1] []) ?_;intro _ st h;obtain⟨g,b⟩:=st;unfold vG at h;conv=>whnf
  apply ifc h<;>intro y h
  ·conv=>whnf
   refine bq h fun _ t h=>⟨_,Codec.at_ cc t,?_⟩;conv=>whnf
   refine bq h fun⟨_,_,_,_,_,_⟩ s h=>⟨_,Codec.at_ gM s,?_⟩;conv=>whnf
   refine bq h fun l q h=>⟨_,(UC n _ _ _ _ q),?_⟩;conv=>whnf
   refine⟨_,vz xD (PV.int .i64) l (1:Int) b,?_⟩;conv=>whnf
   exact⟨((kwr .i64 (g+1)),(db l (1:Int) b)),h,wk [0,1] []⟩
  conv=>whnf
  exact⟨((kwr .i64 (e+1)),b),h,wk [0,1] []⟩
 obtain rfl:=sj h;conv=>whnf
 refine⟨_,_,⟨rfl,rfl⟩,wk [0] []⟩
abbrev CZ (_:List (SS×Int)) (r:(List (SS×Int))):FV:=.p (.tup [])
abbrev CR (_:List (SS×Int)) (r:(List (SS×Int))):List AObj:=[.mp .string (qH PV.str (PV.int .i64) r) none]
def uz (n:Nat) (a:Int×List (SS×Int)->Option ((List (SS×Int)))) (b:Int):List (SS×Int)->Option ((List (SS×Int))):=fun c=>
 a ((kwr .i64 (b+1)),c)
def vF (n:Nat) (e s:List Node) (t:List Edge):LK (Int×List (SS×Int)) ((List (SS×Int))):=fun d (a,b)=>
 bif(decide (a<((Node.rows e).length:Int)))then(
 bnd (idx e a) fun⟨c,f,g,i⟩=>
 bnd (QN n (Graph.mk s t) c) fun⟨⟨k,l,m,o⟩,j⟩=>
 bnd (qD (!(!j)) (bz n (Graph.mk [Node.mk c f g i] ([]:List Edge)) (Graph.mk [Node.mk k l m o] ([]:List Edge)))) fun p=>
 bif(bif(!j)then true else(!p))then(
 bnd (pM n (Node.mk c f g i) b) fun q=>
 uz n d a q)
 else(
 uz n d a b))
 else(
 some b)
def bd (n:Nat) (a b:Graph) (f:List (SS×Int)):Option ((List (SS×Int))):=
 match a,b with
 | ⟨c,_⟩,⟨d,e⟩=>
 qo (vF n c d e) n ((0:Int),f)
theorem Zk (n:Nat):∀ (d e:Graph) (c:List (SS×Int)) (r:(List (SS×Int))),bd n d e c=some r->vA TP 37 [.mref 0,.p (PV.agg (nZ.cells d)),.p (PV.agg (nZ.cells e))] [.mp .string (qH PV.str (PV.int .i64) c) none] 1 (fun v lo=>v=CZ c r/\lo=CR c r):=by
 intro d e c r h;obtain⟨b,_⟩:=d;obtain⟨f,g⟩:=e;unfold bd at h;refine zO Tryz.call37 Tryz.func37 [70,1000000] ?_;conv=>whnf
 refine qX.fn [70,1000000] (S:=Int×List (SS×Int)) (fun(a,i)=>[(0,.mref 0),(5,.ptr 1 0),(11,.p (.sl (Node.rows b))),(12,.p (.int .i64 ((Node.rows b).length:Int))),(13,pI a)]) (fun(a,i)=>[.mp .string (qH PV.str (PV.int .i64) i) none,.box 40 [.p (.sl (Node.rows f)),.p (.sl (Edge.rows g))]]) (B:=vF n b f g) h (wk [0,2] []) ?_;intro E st h;obtain⟨a,i⟩:=st;unfold vF at h;conv=>whnf
 apply ifc h<;>intro C h
 ·conv=>whnf
  refine cY.cut (S:=List (SS×Int)) (fun j=>[(0,.mref 0),(5,.ptr 1 0),(11,.p (.sl (Node.rows b))),(12,.p (.int .i64 ((Node.rows b).length:Int))),(13,pI a)]) (fun j=>[.mp .string (qH PV.str (PV.int .i64) j) none,.box 40 [.p (.sl (Node.rows f)),.p (.sl (Edge.rows g))]]) (uz n E a) (r:=r) ?_ ?_
  ·intro j h
   unfold uz at h;conv=>whnf
   exact⟨((kwr .i64 (a+1)),j),h,wk [0,1] []⟩
  conv=>whnf
  refine bq h fun⟨u,k,l,m⟩ A h=>⟨_,Codec.at_ tk A,?_⟩;conv=>whnf
  refine bq h fun⟨⟨o,q,s,t⟩,_⟩ z h=>⟨_,(Mn n _ _ _ z),?_⟩;conv=>whnf
  refine⟨id,?_⟩;conv=>whnf
  refine⟨Codec.one tk [Node.mk u k l m],Node.rows [Node.mk u k l m],.inl rfl,?_⟩;conv=>whnf
  refine⟨id,id,?_⟩;conv=>whnf
  refine⟨Codec.one tk [Node.mk o q s t],Node.rows [Node.mk o q s t],.inl rfl,?_⟩;conv=>whnf
  refine⟨id,id,id,?_⟩;conv=>whnf
  refine bq h fun _ y h=>⟨_,fun D=>(qb.leArgs (Gh n _ _ _ (qa y D)) (by try exact fin)),?_⟩;conv=>whnf
  refine⟨id,id,?_⟩;conv=>whnf
  apply ifc h<;>intro C h
  ·conv=>whnf
   refine bq h fun w x h=>?_;refine Zd (FD n _ _ _ x) [0] [] ?_;rintro _ _ ⟨rfl,rfl⟩;refine⟨.p (.tup []),[.mp .string (qH PV.str (PV.int .i64) w) none,.box 40 [.p (.sl (Node.rows f)),.p (.sl (Edge.rows g))],.box 74 [pI u,pT k,pT l,pV m],.box 74 [pI o,pT q,pT s,pV t]],rfl,rfl,?_⟩;conv=>whnf
   exact⟨w,h,wk [0,1] []⟩
  conv=>whnf
  exact⟨i,h,wk [0,1] []⟩
 obtain rfl:=sj h;conv=>whnf
 refine⟨_,_,⟨rfl,rfl⟩,wk [0] []⟩
abbrev Ln (r:Int):PV:=PV.int .i64 r
def Qr (n:Nat) (a:Edge):Option (Int):=
 match a with
 | ⟨b,_,_,_,_,_⟩=>
 some b
theorem Ea (n:Nat):∀ (a:Edge) (r:Int),Qr n a=some r->qb TP 133 [PV.agg (tP.cells a)] (Ln r):=by
 intro a r h;obtain⟨_,_,_,_,_,_⟩:=a;unfold Qr at h;refine zN Tryz.call133 Tryz.func133 [1000000] ?_;obtain rfl:=sj h;conv=>whnf
 try exact fin
abbrev Xe (r:Int):PV:=PV.int .i64 r
def xQ (n:Nat) (a:Edge) (j:Int) (_:Unit):Option (Int):=
 match a with
 | ⟨b,d,e,f,g,i⟩=>
 bnd (Qr n (Edge.mk b d e f g i)) fun k=>
 bnd (uZ n k j) fun c=>
 some c
theorem nj (n:Nat):∀ (a:Edge) (b:Int) (c:Unit) (r:Int),xQ n a b c=some r->qb TP 207 [PV.agg (tP.cells a),PV.int .i64 b,PV.hp [PV.fn 133]] (Xe r):=by
 intro a b c r h;obtain⟨_,_,_,_,_,_⟩:=a;unfold xQ at h;refine zN Tryz.call207 Tryz.func207 [1000000] ?_;conv=>whnf
 refine bq h fun _ e h=>⟨_,(Ea n _ _ e),?_⟩;conv=>whnf
 refine bq h fun _ d h=>⟨_,(tT n _ _ _ d),?_⟩;obtain rfl:=sj h;conv=>whnf
 try exact fin
abbrev ve (r:Int×Bool):PV:=PV.tup [PV.int .i64 r.1,PV.bool r.2]
def qp (n:Nat) (b:List Edge) (e:Int):LK (Int×Int) (Int×Bool):=fun d (a,c)=>
 bif(decide (a<c))then(
 bnd (idx b (kwr .i64 (Int.fdiv (kwr .u64 (kwr .i64 (a+c))) (2 ^ (min (Int.toNat (1:Int)) IntKind.u64.bits))))) fun⟨s,t,u,v,f,g⟩=>
 bnd (xQ n (Edge.mk s t u v f g) e ()) fun i=>
 bif(decide (i<0))then(
 d ((kwr .i64 ((kwr .i64 (Int.fdiv (kwr .u64 (kwr .i64 (a+c))) (2 ^ (min (Int.toNat (1:Int)) IntKind.u64.bits))))+1)),c))
 else(
 d (a,(kwr .i64 (Int.fdiv (kwr .u64 (kwr .i64 (a+c))) (2 ^ (min (Int.toNat (1:Int)) IntKind.u64.bits)))))))
 else(
 bnd (qD (decide (a<((Edge.rows b).length:Int))) (idx b a)) fun⟨j,k,l,m,o,p⟩=>
 bnd (qD (decide (a<((Edge.rows b).length:Int))) (xQ n (Edge.mk j k l m o p) e ())) fun q=>
 some (a,(bif(decide (a<((Edge.rows b).length:Int)))then(q==0)else false)))
def qJ (n:Nat) (a:List Edge) (b:Int) (_:Unit):Option (Int×Bool):=
 qo (qp n a b) n ((0:Int),((Edge.rows a).length:Int))
theorem vb (n:Nat):∀ (a:List Edge) (d:Int) (f:Unit) (r:Int×Bool),qJ n a d f=some r->qb TP 206 [PV.sl (Edge.rows a),PV.int .i64 d,PV.clo 207 [PV.hp [PV.fn 133]]] (ve r):=by
 intro a d f r h;unfold qJ at h;refine zN Tryz.call206 Tryz.func206 [1000000] ?_;conv=>whnf
 refine qX.fn [1000000] (S:=Int×Int) (fun(b,c)=>[(0,.p (.sl (Edge.rows a))),(1,pI d),(2,.p (.clo 207 [PV.hp [PV.fn 133]])),(8,.p (.int .i64 ((Edge.rows a).length:Int))),(9,pI b),(10,pI c)]) (fun(b,c)=>[]) (B:=qp n a d) h (wk [] []) ?_;intro _ st h;obtain⟨b,c⟩:=st;unfold qp at h;conv=>whnf
 apply ifc h<;>intro l h
 ·conv=>whnf
  refine⟨by unfold gI; decide,?_⟩;conv=>whnf
  refine bq h fun⟨_,_,_,_,_,_⟩ i h=>⟨_,Codec.at_ tP i,?_⟩;conv=>whnf
  refine bq h fun _ g h=>⟨_,(nj n _ _ _ _ g),?_⟩;conv=>whnf
  apply ifc h<;>intro l h
  ·conv=>whnf
   exact⟨((kwr .i64 ((kwr .i64 (Int.fdiv (kwr .u64 (kwr .i64 (b+c))) (2 ^ (min (Int.toNat (1:Int)) IntKind.u64.bits))))+1)),c),h,wk [] []⟩
  conv=>whnf
  exact⟨(b,(kwr .i64 (Int.fdiv (kwr .u64 (kwr .i64 (b+c))) (2 ^ (min (Int.toNat (1:Int)) IntKind.u64.bits))))),h,wk [] []⟩
 conv=>whnf
 refine⟨id,id,?_⟩;conv=>whnf
 refine bq h fun⟨_,_,_,_,_,_⟩ k h=>⟨_,fun e=>Codec.at_ tP (qa k e),?_⟩;conv=>whnf
 refine⟨id,id,id,id,?_⟩;conv=>whnf
 refine bq h fun _ j h=>⟨_,fun e=>(nj n _ _ _ _ (qa j e)),?_⟩;conv=>whnf
 refine⟨id,id,?_⟩;obtain rfl:=sj h;conv=>whnf
 try exact fin
abbrev rO (r:Int×Bool):PV:=PV.tup [PV.int .i64 r.1,PV.bool r.2]
def xJ (n:Nat) (a:List Edge) (b:Int):Option (Int×Bool):=
 bnd (qJ n a b ()) fun⟨c,d⟩=>
 some (c,d)
theorem pF (n:Nat):∀ (a:List Edge) (b:Int) (r:Int×Bool),xJ n a b=some r->qb TP 132 [PV.sl (Edge.rows a),PV.int .i64 b,PV.fn 133] (rO r):=by
 intro a b r h;unfold xJ at h;refine zN Tryz.call132 Tryz.func132 [10000005,1000000] ?_;conv=>whnf
 refine bq h fun⟨_,_⟩ c h=>⟨_,(vb n _ _ _ _ c),?_⟩;obtain rfl:=sj h;conv=>whnf
 try exact fin
abbrev BW (r:Edge):PV:=PV.agg (tP.cells r)
def mb (n:Nat) (a:Edge):Option (Edge):=
 match a with
 | ⟨b,c,d,e,f,g⟩=>
 bnd (mP n f g) fun⟨i,j⟩=>
 some (Edge.mk b c d e i j)
theorem CJ (n:Nat):∀ (a r:Edge),mb n a=some r->qb TP 134 [PV.agg (tP.cells a)] (BW r):=by
 intro a r h;obtain⟨_,_,_,_,_,_⟩:=a;unfold mb at h;refine zN Tryz.call134 Tryz.func134 [1000000] ?_;conv=>whnf
 refine bq h fun⟨_,_⟩ b h=>⟨_,(Vv n _ _ _ b),?_⟩;obtain rfl:=sj h;conv=>whnf
 try exact fin
abbrev PZ (r:Edge×Bool):PV:=PV.tup [PV.agg (tP.cells r.1),PV.bool r.2]
def QM (n:Nat) (b:Graph) (l:Int):Option (Edge×Bool):=
 match b with
 | ⟨_,a⟩=>
 bnd (xJ n a l) fun⟨m,o⟩=>
 bif(!o)then(
 some (Edge.mk (0:Int) (0:Int) (0:Int) ([]:SS) ([]:List SS) ([]:List Val),false))
 else(
 bnd (idx a m) fun⟨p,q,s,t,c,d⟩=>
 bnd (mb n (Edge.mk p q s t c d)) fun⟨e,f,g,i,j,k⟩=>
 some (Edge.mk e f g i j k,true))
theorem Mm (n:Nat):∀ (a:Graph) (b:Int) (r:Edge×Bool),QM n a b=some r->qb TP 71 [PV.agg (nZ.cells a),PV.int .i64 b] (PZ r):=by
 intro a b r h;obtain⟨_,_⟩:=a;unfold QM at h;refine zN Tryz.call71 Tryz.func71 [1000000] ?_;conv=>whnf
 refine bq h fun⟨_,_⟩ e h=>⟨_,(pF n _ _ _ e),?_⟩;conv=>whnf
 apply ifc h<;>intro _ h
 ·obtain rfl:=sj h
  conv=>whnf
  try exact fin
 conv=>whnf
 refine bq h fun⟨_,_,_,_,_,_⟩ d h=>⟨_,Codec.at_ tP d,?_⟩;conv=>whnf
 refine bq h fun⟨_,_,_,_,_,_⟩ c h=>⟨_,(CJ n _ _ c),?_⟩;obtain rfl:=sj h;conv=>whnf
 try exact fin
abbrev CY (_:List (SS×Int)) (r:(List (SS×Int))):FV:=.p (.tup [])
abbrev CQ (_:List (SS×Int)) (r:(List (SS×Int))):List AObj:=[.mp .string (qH PV.str (PV.int .i64) r) none]
def uy (n:Nat) (a:Int×List (SS×Int)->Option ((List (SS×Int)))) (b:Int):List (SS×Int)->Option ((List (SS×Int))):=fun c=>
 a ((kwr .i64 (b+1)),c)
def vE (n:Nat) (e:List Edge) (w:List Node) (x:List Edge):LK (Int×List (SS×Int)) ((List (SS×Int))):=fun c (a,b)=>
 bif(decide (a<((Edge.rows e).length:Int)))then(
 bnd (idx e a) fun⟨i,j,k,d,l,m⟩=>
 bnd (QM n (Graph.mk w x) i) fun⟨⟨o,p,q,s,t,u⟩,f⟩=>
 bnd (qD (!(!f)) (bz n (Graph.mk ([]:List Node) [Edge.mk i j k d l m]) (Graph.mk ([]:List Node) [Edge.mk o p q s t u]))) fun v=>
 bif(bif(!f)then true else(!v))then(
 bnd (dt n d) fun g=>
 chk (decide (((([84,58]:SS).length+g.length:Nat):Int)<=xr)) (
 uy n c a (db (([84,58]:SS)++g) (1:Int) (db ([88]:SS) (1:Int) b))))
 else(
 uy n c a b))
 else(
 some b)
def bc (n:Nat) (a b:Graph) (f:List (SS×Int)):Option ((List (SS×Int))):=
 match a,b with
 | ⟨_,c⟩,⟨d,e⟩=>
 qo (vE n c d e) n ((0:Int),f)
theorem Zj (n:Nat):∀ (e f:Graph) (d:List (SS×Int)) (r:(List (SS×Int))),bc n e f d=some r->vA TP 38 [.mref 0,.p (PV.agg (nZ.cells e)),.p (PV.agg (nZ.cells f))] [.mp .string (qH PV.str (PV.int .i64) d) none] 1 (fun v lo=>v=CY d r/\lo=CQ d r):=by
 intro e f d r h;obtain⟨_,c⟩:=e;obtain⟨j,k⟩:=f;unfold bc at h;refine zO Tryz.call38 Tryz.func38 [1000000] ?_;conv=>whnf
 refine qX.fn [1000000] (S:=Int×List (SS×Int)) (fun(b,a)=>[(0,.mref 0),(5,.ptr 1 0),(11,.p (.sl (Edge.rows c))),(12,.p (.int .i64 ((Edge.rows c).length:Int))),(13,pI b)]) (fun(b,a)=>[.mp .string (qH PV.str (PV.int .i64) a) none,.box 40 [.p (.sl (Node.rows j)),.p (.sl (Edge.rows k))]]) (B:=vE n c j k) h (wk [0,2] []) ?_;intro J st h;obtain⟨b,a⟩:=st;unfold vE at h;conv=>whnf
 apply ifc h<;>intro H h
 ·conv=>whnf
  refine cY.cut (S:=List (SS×Int)) (fun g=>[(0,.mref 0),(5,.ptr 1 0),(11,.p (.sl (Edge.rows c))),(12,.p (.int .i64 ((Edge.rows c).length:Int))),(13,pI b)]) (fun g=>[.mp .string (qH PV.str (PV.int .i64) g) none,.box 40 [.p (.sl (Node.rows j)),.p (.sl (Edge.rows k))]]) (uy n J b) (r:=r) ?_ ?_
  ·intro g h
   unfold uy at h;conv=>whnf
   exact⟨((kwr .i64 (b+1)),g),h,wk [0,1] []⟩
  conv=>whnf
  refine bq h fun⟨A,l,m,o,q,s⟩ G h=>⟨_,Codec.at_ tP G,?_⟩;conv=>whnf
  refine bq h fun⟨⟨t,u,w,x,y,z⟩,_⟩ F h=>⟨_,(Mm n _ _ _ F),?_⟩;conv=>whnf
  refine⟨id,?_⟩;conv=>whnf
  refine⟨Codec.one tP [Edge.mk A l m o q s],Edge.rows [Edge.mk A l m o q s],.inl rfl,?_⟩;conv=>whnf
  refine⟨id,id,?_⟩;conv=>whnf
  refine⟨Codec.one tP [Edge.mk t u w x y z],Edge.rows [Edge.mk t u w x y z],.inl rfl,?_⟩;conv=>whnf
  refine⟨id,id,id,?_⟩;conv=>whnf
  refine bq h fun _ E h=>⟨_,fun I=>(qb.leArgs (Gh n _ _ _ (qa E I)) (by try exact fin)),?_⟩;conv=>whnf
  refine⟨id,id,?_⟩;conv=>whnf
  apply ifc h<;>intro H h
  ·conv=>whnf
   refine bq h fun i D h=>⟨_,(mV n _ _ D),?_⟩;conv=>whnf
   obtain⟨C,h⟩:=qg h;refine⟨(kod C:((([84,58]:SS).length+i.length:Nat):Int)<=xr),?_⟩;conv=>whnf
   refine⟨_,vz xD (PV.int .i64) ([88]:SS) (1:Int) a,?_⟩;conv=>whnf
   refine⟨_,vz xD (PV.int .i64) (([84,58]:SS)++i) (1:Int) (db ([88]:SS) (1:Int) a),?_⟩;conv=>whnf
   exact⟨(db (([84,58]:SS)++i) (1:Int) (db ([88]:SS) (1:Int) a)),h,wk [0,1] []⟩
  conv=>whnf
  exact⟨a,h,wk [0,1] []⟩
 obtain rfl:=sj h;conv=>whnf
 refine⟨_,_,⟨rfl,rfl⟩,wk [0] []⟩
abbrev Ep (r:List SS):PV:=PV.sl (qi r)
def ur (n:Nat) (e f:Graph):Option (List SS):=
 match e,f with
 | ⟨a,b⟩,⟨c,d⟩=>
 bnd (bd n (Graph.mk a b) (Graph.mk c d) ([]:List (SS×Int))) fun g=>
 bnd (bd n (Graph.mk c d) (Graph.mk a b) g) fun i=>
 bnd (bc n (Graph.mk a b) (Graph.mk c d) i) fun j=>
 bnd (bc n (Graph.mk c d) (Graph.mk a b) j) fun k=>
 bnd (cq n k) fun l=>
 some l
theorem tA (n:Nat):∀ (e f:Graph) (r:List SS),ur n e f=some r->qb TP 14 [PV.agg (nZ.cells e),PV.agg (nZ.cells f)] (Ep r):=by
 intro e f r h;obtain⟨a,b⟩:=e;obtain⟨c,d⟩:=f;unfold ur at h;refine zN Tryz.call14 Tryz.func14 [29,37,38,1000000] ?_;conv=>whnf
 refine bq h fun o i h=>?_;refine Zd (Zk n _ _ _ _ i) [2] [] ?_;rintro _ _ ⟨rfl,rfl⟩;refine⟨.p (.tup []),[.box 40 [.p (.sl (Node.rows a)),.p (.sl (Edge.rows b))],.box 40 [.p (.sl (Node.rows c)),.p (.sl (Edge.rows d))],.mp .string (qH PV.str (PV.int .i64) o) none],rfl,rfl,?_⟩;conv=>whnf
 refine bq h fun q j h=>?_;refine Zd (Zk n _ _ _ _ j) [2] [] ?_;rintro _ _ ⟨rfl,rfl⟩;refine⟨.p (.tup []),[.box 40 [.p (.sl (Node.rows a)),.p (.sl (Edge.rows b))],.box 40 [.p (.sl (Node.rows c)),.p (.sl (Edge.rows d))],.mp .string (qH PV.str (PV.int .i64) q) none],rfl,rfl,?_⟩;conv=>whnf
 refine bq h fun s k h=>?_;refine Zd (Zj n _ _ _ _ k) [2] [] ?_;rintro _ _ ⟨rfl,rfl⟩;refine⟨.p (.tup []),[.box 40 [.p (.sl (Node.rows a)),.p (.sl (Edge.rows b))],.box 40 [.p (.sl (Node.rows c)),.p (.sl (Edge.rows d))],.mp .string (qH PV.str (PV.int .i64) s) none],rfl,rfl,?_⟩;conv=>whnf
 refine bq h fun g l h=>?_;refine Zd (Zj n _ _ _ _ l) [2] [] ?_;rintro _ _ ⟨rfl,rfl⟩;refine⟨.p (.tup []),[.box 40 [.p (.sl (Node.rows a)),.p (.sl (Edge.rows b))],.box 40 [.p (.sl (Node.rows c)),.p (.sl (Edge.rows d))],.mp .string (qH PV.str (PV.int .i64) g) none],rfl,rfl,?_⟩;conv=>whnf
 refine bq h fun t m h=>?_;refine Zd (Xb n _ _ m) [2] [] ?_;rintro _ _ ⟨rfl,rfl⟩;refine⟨pT t,[.box 40 [.p (.sl (Node.rows a)),.p (.sl (Edge.rows b))],.box 40 [.p (.sl (Node.rows c)),.p (.sl (Edge.rows d))],.mp .string (qH PV.str (PV.int .i64) g) none],rfl,rfl,?_⟩;obtain rfl:=sj h;conv=>whnf
 try exact fin
abbrev Eh (r:Bool):PV:=PV.bool r
def cy (n:Nat) (b d:List SS):LK (Int) (Bool):=fun c a=>
 bif(decide (a<((qi b).length:Int)))then(
 bnd (idx b a) fun e=>
 bnd (idx d a) fun f=>
 bif(!(e==f))then(
 some false)
 else(
 c (kwr .i64 (a+1))))
 else(
 some true)
def qY (n:Nat) (a b:List SS):Option (Bool):=
 bif(((qi a).length:Int) != ((qi b).length:Int))then(
 some false)
 else(
 qo (cy n a b) n (0:Int))
theorem zs (n:Nat):∀ (a b:List SS) (r:Bool),qY n a b=some r->qb TP 11 [PV.sl (qi a),PV.sl (qi b)] (Eh r):=by
 intro a b r h;unfold qY at h;refine zN Tryz.call11 Tryz.func11 [1000000] ?_;conv=>whnf
 apply ifc h<;>intro d h
 ·obtain rfl:=sj h
  conv=>whnf
  try exact fin
 conv=>whnf
 refine qX.fn [1000000] (S:=Int) (fun c=>[(0,pT a),(1,pT b),(5,pI c)]) (fun c=>[]) (B:=cy n a b) h (wk [] []) ?_;intro _ c h;unfold cy at h;conv=>whnf
 apply ifc h<;>intro d h
 ·conv=>whnf
  refine bq h fun _ f h=>⟨_,Codec.at_ cc f,?_⟩;conv=>whnf
  refine bq h fun _ e h=>⟨_,Codec.at_ cc e,?_⟩;conv=>whnf
  apply ifc h<;>intro d h
  ·obtain rfl:=sj h
   conv=>whnf
   try exact fin
  conv=>whnf
  exact⟨(kwr .i64 (c+1)),h,wk [] []⟩
 obtain rfl:=sj h;conv=>whnf
 try exact fin
abbrev Eo (r:Bool):PV:=PV.bool r
def Xa (n:Nat) (a:SS) (b:List SS):Option (Bool):=
 bnd (zP n b a) fun c=>
 some c
theorem BQ (n:Nat):∀ (a:SS) (b:List SS) (r:Bool),Xa n a b=some r->qb TP 53 [PV.str a,PV.hp [PV.sl (qi b)]] (Eo r):=by
 intro a b r h;unfold Xa at h;refine zN Tryz.call53 Tryz.func53 [1000000] ?_;conv=>whnf
 refine bq h fun _ c h=>⟨_,(fZ n _ _ _ c),?_⟩;obtain rfl:=sj h;conv=>whnf
 try exact fin
abbrev ca (r:Int):PV:=PV.int .i64 r
def zW (n:Nat) (b d:List SS):LK (Int) (Int):=fun c a=>
 bif(decide (a<((qi b).length:Int)))then(
 bnd (idx b a) fun e=>
 bnd (Xa n e d) fun f=>
 bif f then(
 some a)
 else(
 c (kwr .i64 (a+1))))
 else(
 some (-1:Int))
def xh (n:Nat) (a b:List SS):Option (Int):=
 qo (zW n a b) n (0:Int)
theorem fX (n:Nat):∀ (a b:List SS) (r:Int),xh n a b=some r->qb TP 99 [PV.sl (qi a),PV.clo 53 [PV.hp [PV.sl (qi b)]]] (ca r):=by
 intro a b r h;unfold xh at h;refine zN Tryz.call99 Tryz.func99 [1000000] ?_;conv=>whnf
 refine qX.fn [1000000] (S:=Int) (fun c=>[(0,pT a),(1,.p (.clo 53 [PV.hp [PV.sl (qi b)]])),(7,.p (.int .i64 ((qi a).length:Int))),(8,pI c)]) (fun c=>[]) (B:=zW n a b) h (wk [] []) ?_;intro _ c h;unfold zW at h;conv=>whnf
 apply ifc h<;>intro f h
 ·conv=>whnf
  refine bq h fun _ e h=>⟨_,Codec.at_ cc e,?_⟩;conv=>whnf
  refine bq h fun _ d h=>⟨_,(BQ n _ _ _ d),?_⟩;conv=>whnf
  apply ifc h<;>intro f h
  ·obtain rfl:=sj h
   conv=>whnf
   try exact fin
  conv=>whnf
  exact⟨(kwr .i64 (c+1)),h,wk [] []⟩
 obtain rfl:=sj h;conv=>whnf
 try exact fin
abbrev fJ (r:Bool):PV:=PV.bool r
def zV (n:Nat) (a b:List SS):Option (Bool):=
 bnd (xh n a b) fun c=>
 some (decide (c≥0))
theorem fi (n:Nat):∀ (a b:List SS) (r:Bool),zV n a b=some r->qb TP 52 [PV.sl (qi a),PV.clo 53 [PV.hp [PV.sl (qi b)]]] (fJ r):=by
 intro a b r h;unfold zV at h;refine zN Tryz.call52 Tryz.func52 [1000000] ?_;conv=>whnf
 refine bq h fun _ c h=>⟨_,(fX n _ _ _ c),?_⟩;obtain rfl:=sj h;conv=>whnf
 try exact fin
abbrev Rc (r:Bool):PV:=PV.bool r
def Xz (n:Nat) (a b:List SS):Option (Bool):=
 bnd (zV n a b) fun c=>
 some c
theorem Gi (n:Nat):∀ (a b:List SS) (r:Bool),Xz n a b=some r->qb TP 24 [PV.sl (qi a),PV.sl (qi b)] (Rc r):=by
 intro a b r h;unfold Xz at h;refine zN Tryz.call24 Tryz.func24 [10000003,1000000] ?_;conv=>whnf
 refine bq h fun _ c h=>⟨_,(fi n _ _ _ c),?_⟩;obtain rfl:=sj h;conv=>whnf
 try exact fin
end W
end
