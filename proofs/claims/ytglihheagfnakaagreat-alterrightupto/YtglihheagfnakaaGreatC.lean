/- A part of the proof: the plain law. -/
import Derived.Shelf.Spec.SlicesGrow
import Derived.Shelf.GgSortMore.Stable
import Derived.Shelf.GgSortFunc.SW
import Derived.Deep.QuietTactic
import Derived.Test.YtglihheagfnakaaGreatB
set_option linter.unusedVariables false
set_option linter.unusedSimpArgs false
set_option linter.unnecessarySimpa false
set_option linter.deprecated false
set_option linter.unusedSectionVars false
set_option linter.constructorNameAsVariable false
open Go renaming run_underlying->kru
open Nat renaming le_of_ble_eq_true->jh,zero_add->jx
section
open Go
namespace Ax
class CC {R:Type} (P:Program) (e:Option R) (f:outParam FuncId) (args:outParam (List PV)) (enc:outParam (R->PV)):Prop where
 ok:∀ r,e=some r->qh P f args (enc r)
class CD (A:Type) where
 c:Codec A
class LF {B S:Type} (b:B) (keep:outParam (List Nat)) (d:outParam (S->Env)) (l:outParam (List Nat)) (o:outParam (S->List (Nat×AObj))):Prop
abbrev LL {S R:Type} (b:(S->Option R)->S->Option R) (keep:List Nat) (d:S->Env) (l:List Nat:=[]) (o:S->List (Nat×AObj):=fun _=>[]):Prop:=LF b keep d l o
abbrev LJ {S R:Type} (b:S->Option R) (keep:List Nat) (d:S->Env) (l:List Nat:=[]) (o:S->List (Nat×AObj):=fun _=>[]):Prop:=LF b keep d l o
section
variable {P:Program} {R A:Type} {f:FuncId} {args:List PV} {enc:R->PV} {e:Option R} {k:R->Option A} {r:A} {K:PV->Prop}
theorem sC [CC P e f args enc] (h:bnd e k=some r) (g:∀ x,k x=some r->K (enc x)):∃ a,qh P f args a/\K a:=by
 obtain⟨x,h1,h2⟩:=qQ h;exact⟨_,CC.ok x h1,g x h2⟩
theorem sG [Inhabited R] {b:Bool} [CC P e f args enc] (h:bnd (qz b e) k=some r) (g:∀ x,k x=some r->K (enc x)):∃ a,(b=true->qh P f args a)/\K a:=by
 obtain⟨x,h1,h2⟩:=qQ h;exact⟨_,fun c=>CC.ok x (fC h1 c),g x h2⟩
theorem sI {R:Type} [CD R] {l:List R} {i:Int} {k:R->Option A} {z:Nat} {rows:List (List PV)} {K:List PV->Prop} (h:bnd (idx l i) k=some r) (g:∀ x,k x=some r->K (CD.c.cells x)) (a:rows=(CD.c (A:=R)).rows l:=by rfl) (hz:z=(CD.c (A:=R)).z:=by rfl):∃ c,(0<=i/\rows[i.toNat]? =some c/\c.length=z)/\K c:=by
 subst a; subst hz;obtain⟨x,h1,h2⟩:=qQ h;exact⟨_,CD.c.at_ h1,g x h2⟩
theorem sJ {R:Type} [Inhabited R] [CD R] {b:Bool} {l:List R} {i:Int} {k:R->Option A} {z:Nat} {rows:List (List PV)} {K:List PV->Prop} (h:bnd (qz b (idx l i)) k=some r) (g:∀ x,k x=some r->K (CD.c.cells x)) (a:rows=(CD.c (A:=R)).rows l:=by rfl) (hz:z=(CD.c (A:=R)).z:=by rfl):∃ c,(b=true->0<=i/\rows[i.toNat]? =some c/\c.length=z)/\K c:=by
 subst a; subst hz;obtain⟨x,h1,h2⟩:=qQ h;exact⟨_,fun d=>CD.c.at_ (fC h1 d),g x h2⟩
end
def apK:Env->Env->(Env->Prop)->Prop
 | [],l,R=>R l
 | x::E,l,R=>apK E l fun l=>R (x::l)
def frK:Env->List Nat->Env->(Env->Prop)->Prop
 | [],_,d,R=>apK d [] R
 | (t,v)::E,keep,d,R=>match keep.any (Nat.beq t)with
  | true=>frK E (keep.filter fun k=>!(Nat.beq t k)) d fun E=>R ((t,v)::E)
  | false=>frK E keep d R
def frE:Env->List Nat->Env->Env
 | [],_,d=>d
 | (t,v)::E,keep,d=>match keep.any (Nat.beq t)with
  | true=>(t,v)::frE E (keep.filter fun k=>!(Nat.beq t k)) d
  | false=>frE E keep d
def qew:List (Nat×AObj)->Nat->(Option AObj->Prop)->Prop
 | [],_,R=>R none
 | (k,x)::a,j,R=>match Nat.beq k j with
  | true=>R (some x)
  | false=>qew a j R
abbrev kc:FV:=.p (.bfn 0 [])
def mcK (c a:FV) (R:FV->Prop):Prop:=match a with
 | .p q=>match q with
  | .bfn k l=>match l with
   | []=>R c
   | _::_=>match c with
    | .tsl _ rows=>R (.tsl k rows)
    | _=>R c
  | _=>R (.p q)
 | _=>R a
def mgC:List FV->List FV->(List FV->Prop)->Prop
 | c::cs,c'::cs',R=>mcK c c' fun c=>mgC cs cs' fun cs=>R (c::cs)
 | _,cs',R=>R cs'
def mgK (lo:List AObj) (i:Nat) (b:AObj) (R:AObj->Prop):Prop:=match b with
 | .box t cs'=>Zm i lo fun o=>match o with
  | .box _ cs=>mgC cs cs' fun cs=>R (.box t cs)
  | _=>R b
 | _=>R b
theorem HG {lo:List AObj}:∀{i:Nat} {R:AObj->Prop},Zm i lo R->R (lo.getD i .dead):=by
 induction lo with
 | nil=>intro i R h; cases i<;>exact h.elim
 | cons a l ih=>
  intro i R h;cases i with
  | zero=>exact h
  | succ i=>simpa using ih (i:=i) h
theorem qdq (c a:FV):∃ v,∀ R,mcK c a R->R v:=by
 unfold mcK;split
 ·split
  ·split
   ·exact⟨_,fun R h=>h⟩
   split<;>exact⟨_,fun R h=>h⟩
  exact⟨_,fun R h=>h⟩
 exact⟨_,fun R h=>h⟩
theorem oP:∀ cs a:List FV,∃ v,∀ R,mgC cs a R->R v
 | c::cs,c'::a=>by
  obtain⟨f,hf⟩:=qdq c c';obtain⟨v,b⟩:=oP cs a;exact⟨f::v,fun R h=>b _ (hf _ h)⟩
 | [],a=>⟨a,fun R h=>by unfold mgC at h; exact h⟩
 | c::cs,[]=>⟨[],fun R h=>by unfold mgC at h; exact h⟩
theorem oQ (lo:List AObj) (i:Nat) (b:AObj):∃ v,∀ R,mgK lo i b R->R v:=by
 cases b with
 | box t cs'=>
  cases a:lo.getD i .dead with
  | box t' cs=>
   obtain⟨v,c⟩:=oP cs cs';exact⟨_,fun R h=>by have h:=HG h; rw[a]at h; exact c _ h⟩
  | _=>exact⟨_,fun R h=>by have h:=HG h; rw[a]at h; exact h⟩
 | _=>exact⟨_,fun R h=>h⟩
noncomputable def mgE (lo:List AObj) (i:Nat) (b:AObj):AObj:=(oQ lo i b).choose
theorem qdr {lo:List AObj} {i:Nat} {b:AObj} {R:AObj->Prop} (h:mgK lo i b R):R (mgE lo i b):=(oQ lo i b).choose_spec R h
def obK (lo:List AObj) (o:List (Nat×AObj)):Nat->List Nat->(List AObj->Prop)->Prop
 | _,[],R=>R []
 | j,i::l,R=>qew o j fun x=>match x with
  | some b=>mgK lo i b fun b=>obK lo o (j+1) l fun r=>R (b::r)
  | none=>Zm i lo fun b=>obK lo o (j+1) l fun r=>R (b::r)
def qeu:List (Nat×AObj)->Nat->Option AObj
 | [],_=>none
 | (k,x)::a,j=>match Nat.beq k j with
  | true=>some x
  | false=>qeu a j
noncomputable def obE (lo:List AObj) (o:List (Nat×AObj)):Nat->List Nat->List AObj
 | _,[]=>[]
 | j,i::l=>(match qeu o j with|some b=>mgE lo i b|none=>lo.getD i .dead)::obE lo o (j+1) l
theorem oA:∀{E l:Env} {R:Env->Prop},apK E l R->R (E++l)
 | [],_,_,h=>h
 | _::E,l,_,h=>oA (E:=E) h
theorem oH:∀{E:Env} {keep:List Nat} {d:Env} {R:Env->Prop},frK E keep d R->R (frE E keep d)
 | [],_,d,R,h=>by
  have h:=oA (R:=R) h
  rwa [List.append_nil]at h
 | (t,v)::E,keep,d,R,h=>by
  unfold frK at h;unfold frE;split at h<;>exact oH (E:=E) h
theorem Ss:∀{o:List (Nat×AObj)} {j:Nat} {R:Option AObj->Prop},qew o j R->R (qeu o j)
 | [],_,_,h=>h
 | (k,x)::o,j,R,h=>by
  unfold qew at h;unfold qeu;split at h
  ·exact h
  exact Ss (o:=o) h
theorem iu {lo:List AObj} {o:List (Nat×AObj)}:∀{l:List Nat} {j:Nat} {R:List AObj->Prop},obK lo o j l R->R (obE lo o j l)
 | [],_,_,h=>h
 | i::l,j,R,h=>by
  unfold obK at h;have h:=Ss h;unfold obE;split at h
  ·exact iu (l:=l) (qdr h)
  exact iu (l:=l) (HG h)
def FK (E:Env) (keep:List Nat) (d:Env) (lo:List AObj) (l:List Nat) (o:List (Nat×AObj)) (R:Env->List AObj->Prop):Prop:=frK E keep d fun E=>obK lo o 0 l fun lo=>R E lo
theorem RT {E:Env} {keep:List Nat} {d:Env} {lo:List AObj} {l:List Nat} {o:List (Nat×AObj)} {R:Env->List AObj->Prop} (h:FK E keep d lo l o R):R (frE E keep d) (obE lo o 0 l):=iu (oH h)
abbrev As:=List (Nat×Option Nat)
def Fl:FV->FV->As->(As->Prop)->Prop
 | .tsl k _,.tsl k' _,a,R=>R ((k',some k)::a)
 | _,.tsl k' _,a,R=>R ((k',none)::a)
 | .vsl k _,.vsl k' _,a,R=>R ((k',some k)::a)
 | _,.vsl k' _,a,R=>R ((k',none)::a)
 | .ptr k _,.ptr k' _,a,R=>R ((k',some k)::a)
 | .ptr k _,.bself k',a,R=>R ((k',some k)::a)
 | .bself k,.bself k',a,R=>R ((k',some k)::a)
 | .bsl k _ _ _,.bsl k' _ _ _,a,R=>R ((k',some k)::a)
 | .eptr k _ _ _,.eptr k' _ _ _,a,R=>R ((k',some k)::a)
 | .mref k,.mref k',a,R=>R ((k',some k)::a)
 | .stmp k,.stmp k',a,R=>R ((k',some k)::a)
 | .asl k _ _,.asl k' _ _,a,R=>R ((k',some k)::a)
 | .pair x y,.pair x' y',a,R=>Fl x x' a fun a=>Fl y y' a R
 | .cap x y,.cap x' y',a,R=>Fl x x' a fun a=>Fl y y' a R
 | .opt _ x,.opt _ x',a,R=>Fl x x' a R
 | .clo _ x,.clo _ x',a,R=>Fl x x' a R
 | .fagg x,.fagg x',a,R=>Fl x x' a R
 | .ifs _ x,.ifs _ x',a,R=>Fl x x' a R
 | _,_,a,R=>R a
def NY (E:Env):Env->As->(As->Prop)->Prop
 | [],a,R=>R a
 | (t,v')::E',a,R=>ef E t fun v=>Fl v v' a fun a=>NY E E' a R
def oC:List FV->List FV->As->(As->Prop)->Prop
 | c::cs,c'::cs',a,R=>Fl c c' a fun a=>oC cs cs' a R
 | _,_,a,R=>R a
def qev:As->Nat->(Option (Option Nat)->Prop)->Prop
 | [],_,R=>R none
 | (k,x)::a,j,R=>match Nat.beq k j with
  | true=>R (some x)
  | false=>qev a j R
def qez:AObj->AObj->As->(As->Prop)->Prop
 | .box _ cs,.box _ cs',a,R=>oC cs cs' a R
 | .pbx _ c,.pbx _ c',a,R=>Fl c c' a R
 | _,_,a,R=>R a
def HJ (lo:List AObj):Nat->List AObj->As->(List Nat->List Nat->Prop)->Prop
 | _,[],_,R=>R [] []
 | j,o'::lo',a,R=>qev a j fun x=>match x with
  | some none=>HJ lo (j+1) lo' a fun l b=>R (0::l) (j::b)
  | some (some i)=>Zm i lo fun o=>qez o o' a fun a=>HJ lo (j+1) lo' a fun l b=>R (i::l) b
  | none=>Zm j lo fun o=>qez o o' a fun a=>HJ lo (j+1) lo' a fun l b=>R (j::l) b
theorem Ew:∀{v v':FV} {a:As} {R:As->Prop},Fl v v' a R->∃ a,R a:=by
 intro v v'
 induction v' generalizing v with
 | pair x' y' ix iy=>intro a R h; cases v<;>first|exact⟨_,h⟩|(obtain⟨_,h⟩:=ix h; exact iy h)
 | cap x' y' ix iy=>intro a R h; cases v<;>first|exact⟨_,h⟩|(obtain⟨_,h⟩:=ix h; exact iy h)
 | opt _ _ ih=>intro a R h; cases v<;>first|exact⟨_,h⟩|exact ih h
 | clo _ _ ih=>intro a R h; cases v<;>first|exact⟨_,h⟩|exact ih h
 | fagg _ ih=>intro a R h; cases v<;>first|exact⟨_,h⟩|exact ih h
 | ifs _ _ ih=>intro a R h; cases v<;>first|exact⟨_,h⟩|exact ih h
 | _=>intro a R h; cases v<;>exact⟨_,h⟩
theorem Li {E:Env}:∀{E':Env} {a:As} {R:As->Prop},NY E E' a R->∃ a,R a
 | [],_,_,h=>⟨_,h⟩
 | (t,v')::E',a,R,h=>by
  unfold NY at h;rw[QP]at h;obtain⟨_,h⟩:=Ew h;exact Li (E':=E') h
theorem DT:∀{cs b:List FV} {a:As} {R:As->Prop},oC cs b a R->∃ a,R a
 | [],_,_,_,h=>by unfold oC at h; exact⟨_,h⟩
 | _::_,[],_,_,h=>by unfold oC at h; exact⟨_,h⟩
 | c::cs,c'::b,a,R,h=>by
  unfold oC at h;obtain⟨_,h⟩:=Ew h;exact DT (cs:=cs) h
theorem Sr:∀{a:As} {j:Nat} {R:Option (Option Nat)->Prop},qev a j R->∃ x,R x
 | [],_,_,h=>⟨_,h⟩
 | (k,x)::a,j,R,h=>by
  unfold qev at h;split at h
  ·exact⟨_,h⟩
  exact Sr (a:=a) h
theorem iv {o o':AObj} {a:As} {R:As->Prop} (h:qez o o' a R):∃ a,R a:=by
 unfold qez at h;split at h
 ·exact DT h
 ·exact Ew h
 exact⟨_,h⟩
theorem Xx {lo:List AObj}:∀{lo':List AObj} {j:Nat} {a:As} {R:List Nat->List Nat->Prop},HJ lo j lo' a R->∃ l b,R l b
 | [],_,_,_,h=>⟨_,_,h⟩
 | o'::lo',j,a,R,h=>by
  unfold HJ at h;obtain⟨x,h⟩:=Sr h;split at h
  ·obtain⟨_,_,h⟩:=Xx (lo':=lo') h; exact⟨_,_,h⟩
  ·obtain⟨_,h⟩:=iv (HG h); obtain⟨_,_,h⟩:=Xx (lo':=lo') h; exact⟨_,_,h⟩
  obtain⟨_,h⟩:=iv (HG h); obtain⟨_,_,h⟩:=Xx (lo':=lo') h; exact⟨_,_,h⟩
def EM (nb:Nat) (E:Env) (lo:List AObj) (E':Env) (lo':List AObj):Prop:=
 NY E E' [] fun a=>HJ lo 0 lo' a fun l b=>(ov nb l b lo'=true/\l.length=lo'.length/\Dh lo'.length E'=true/\bY lo'.length lo'=true)/\Ra E (πOf l) b E'/\BI lo (πOf l) b 0 lo'
theorem EM.weak {nb:Nat} {E:Env} {lo:List AObj} {E':Env} {lo':List AObj} (h:EM nb E lo E' lo'):Fg nb E lo E' lo':=by
 obtain⟨_,h⟩:=Li h;obtain⟨l,a,h⟩:=Xx h;exact⟨l,a,h⟩
section
variable {P:Program} {R A:Type} {f:FuncId} {args args':List PV} {enc:R->PV} {e:Option R} {k:R->Option A} {r:A} {K:PV->Prop}
theorem sM [CC P e f args enc] (h:bnd e k=some r) (g:∀ x,k x=some r->K (enc x)) (l:EG args' args:=by(repeat (first|exact trivial|exact rfl|exact .inl rfl|refine⟨?_,?_⟩)); first|done|fail):∃ a,qh P f args' a/\K a:=by
 obtain⟨x,h1,h2⟩:=qQ h;exact⟨_,(CC.ok x h1).leArgs l,g x h2⟩
theorem sN [Inhabited R] {b:Bool} [CC P e f args enc] (h:bnd (qz b e) k=some r) (g:∀ x,k x=some r->K (enc x)) (l:EG args' args:=by(repeat (first|exact trivial|exact rfl|exact .inl rfl|refine⟨?_,?_⟩)); first|done|fail):∃ a,(b=true->qh P f args' a)/\K a:=by
 obtain⟨x,h1,h2⟩:=qQ h;exact⟨_,fun c=>(CC.ok x (fC h1 c)).leArgs l,g x h2⟩
theorem sS {R:Type} {l:List R} {i:Int} {k:R->Option A} {K:R->Prop} (h:bnd (idx l i) k=some r) (g:∀ x,k x=some r->K x):∃ c,(0<=i/\l[i.toNat]? =some c)/\K c:=by
 obtain⟨x,h1,h2⟩:=qQ h;exact⟨_,QK h1,g x h2⟩
theorem sT {R:Type} [Inhabited R] {b:Bool} {l:List R} {i:Int} {k:R->Option A} {K:R->Prop} (h:bnd (qz b (idx l i)) k=some r) (g:∀ x,k x=some r->K x):∃ c,(b=true->0<=i/\l[i.toNat]? =some c)/\K c:=by
 obtain⟨x,h1,h2⟩:=qQ h;exact⟨_,fun a=>QK (fC h1 a),g x h2⟩
theorem sV {i:Int} {k:Nat->Option A} {K:Nat->Prop} (h:bnd (pY i) k=some r) (g:∀ x,k x=some r->K x):∃ n:Nat,i=n/\K n:=by
 obtain⟨x,h1,h2⟩:=qQ h;exact⟨_,cV h1,g x h2⟩
theorem sH {p q:Prop} [Decidable p] {k:Option A} {G:Prop} (h:chk (decide p) k=some r) (g:k=some r->G) (a:p->q:=by first|exact id|exact fun h=>⟨h.1,h.2⟩|exact fun h=>⟨h,Nat.le_refl _⟩|(intro h; omega)):q/\G:=by
 obtain⟨h1,h2⟩:=qu h;exact⟨a (kod h1),g h2⟩
theorem sHi {a:Int} {q:Prop} {k:Option A} {G:Prop} (h:chk (decide (a<=te)) k=some r) (b:a<=te->q) (g:k=some r->G):q/\G:=by
 obtain⟨h1,h2⟩:=qu h;exact⟨b (kod h1),g h2⟩
end
section
variable {A R:Type} {r:R} {z:Nat} {rows:List (List PV)}
theorem sQ {B:Type} {C:Codec B} (x:B) {K:List (List PV)->Prop} (e:rows=C.rows [x]) (g:K (C.rows [x])) (hz:z=C.z:=by rfl):(∀ r∈rows,r.length=z/\r.all Uq=true)/\∃ a,(rows=a\/Vw rows a)/\K a:=by
 subst e; subst hz;exact⟨Codec.one C [x],_,.inl rfl,g⟩
theorem sU {i:Int} {k:UInt8->Option R} {K:List (List PV)->Prop} (h:bnd (u8I i) k=some r) (g:∀ x,k x=some r->K (qo [x])) (hz:z=1:=by rfl):(∀ r∈[[PV.int .u8 i]],r.length=z/\r.all Uq=true)/\∃ a,([[PV.int .u8 i]]=a\/Vw [[PV.int .u8 i]] a)/\K a:=by
 subst hz;obtain⟨x,h1,h2⟩:=qQ h;have e:([[PV.int .u8 i]]:List (List PV))=qo [x]:=by rw[xj h1]; rfl
 rw[e];exact⟨Codec.one zX [x],_,.inl rfl,g x h2⟩
theorem rU {l:List UInt8} {rows:List (List PV)} {K:List (List PV)->Prop} (e:rows=qo l) (g:K (qo l)) (hz:z=1):(∀ r∈rows,r.length=z/\r.all Uq=true)/\∃ a,(rows=a\/Vw rows a)/\K a:=by
 subst hz; subst e;exact⟨Codec.one zX l,_,.inl rfl,g⟩
theorem sU2 {i j:Int} {k:UInt8->UInt8->Option R} {K:List (List PV)->Prop} (h:bnd (u8I i) (fun x=>bnd (u8I j) (k x))=some r) (g:∀ x y,k x y=some r->K (qo [x,y])) (hz:z=1:=by rfl):(∀ r∈[[PV.int .u8 i],[PV.int .u8 j]],r.length=z/\r.all Uq=true)/\∃ a,([[PV.int .u8 i],[PV.int .u8 j]]=a\/Vw [[PV.int .u8 i],[PV.int .u8 j]] a)/\K a:=by
 obtain⟨x,h1,h⟩:=qQ h;obtain⟨y,h2,h⟩:=qQ h;exact rU (l:=[x,y]) (by rw[xj h1,xj h2]; rfl) (g x y h) hz
theorem sU3 {i j m:Int} {k:UInt8->UInt8->UInt8->Option R} {K:List (List PV)->Prop} (h:bnd (u8I i) (fun x=>bnd (u8I j) fun y=>bnd (u8I m) (k x y))=some r) (g:∀ x y v,k x y v=some r->K (qo [x,y,v])) (hz:z=1:=by rfl):(∀ r∈[[PV.int .u8 i],[PV.int .u8 j],[PV.int .u8 m]],r.length=z/\r.all Uq=true)/\∃ a,([[PV.int .u8 i],[PV.int .u8 j],[PV.int .u8 m]]=a\/Vw [[PV.int .u8 i],[PV.int .u8 j],[PV.int .u8 m]] a)/\K a:=by
 obtain⟨x,h1,h⟩:=qQ h;obtain⟨y,h2,h⟩:=qQ h;obtain⟨v,h3,h⟩:=qQ h;exact rU (l:=[x,y,v]) (by rw[xj h1,xj h2,xj h3]; rfl) (g x y v h) hz
theorem sU4 {i j m o:Int} {k:UInt8->UInt8->UInt8->UInt8->Option R} {K:List (List PV)->Prop} (h:bnd (u8I i) (fun x=>bnd (u8I j) fun y=>bnd (u8I m) fun v=>bnd (u8I o) (k x y v))=some r) (g:∀ x y v w,k x y v w=some r->K (qo [x,y,v,w])) (hz:z=1:=by rfl):(∀ r∈[[PV.int .u8 i],[PV.int .u8 j],[PV.int .u8 m],[PV.int .u8 o]],r.length=z/\r.all Uq=true)/\∃ a,([[PV.int .u8 i],[PV.int .u8 j],[PV.int .u8 m],[PV.int .u8 o]]=a\/Vw [[PV.int .u8 i],[PV.int .u8 j],[PV.int .u8 m],[PV.int .u8 o]] a)/\K a:=by
 obtain⟨x,h1,h⟩:=qQ h;obtain⟨y,h2,h⟩:=qQ h;obtain⟨v,h3,h⟩:=qQ h;obtain⟨w,h4,h⟩:=qQ h;exact rU (l:=[x,y,v,w]) (by rw[xj h1,xj h2,xj h3,xj h4]; rfl) (g x y v w h) hz
theorem sW {n:Int} {K:List (List PV)->Prop} (g:K (qo [UInt8.ofNat n.toNat])) (e:((UInt8.ofNat n.toNat).toNat:Int)=n:=by rfl) (hz:z=1:=by rfl):(∀ r∈[[PV.int .u8 n]],r.length=z/\r.all Uq=true)/\∃ a,([[PV.int .u8 n]]=a\/Vw [[PV.int .u8 n]] a)/\K a:=by
 subst hz;have e2:([[PV.int .u8 n]]:List (List PV))=qo [UInt8.ofNat n.toNat]:=by show _=[[PV.int .u8 ((UInt8.ofNat n.toNat).toNat:Int)]]; rw[e]
 rw[e2];exact⟨Codec.one zX [_],_,.inl rfl,g⟩
theorem sP {b:Nat} {a:List (List PV)} {k:Option R} {G:Prop} (h:chk (decide (rows.length * b<=140737488355328)) k=some r) (g:k=some r->G) (hw:∀ row∈a,row.length=z) (c:1<=b:=by decide):((∀ row∈a,row.length=z)/\rows.length * b<=140737488355328/\rows.length<=9223372036854775807)/\G:=by
 obtain⟨h1,h2⟩:=qu h;exact⟨⟨hw,kod h1,xY h1 c⟩,g h2⟩
theorem sB {m:List UInt8} {K:List UInt8->Prop} (g:K m):∃ l,qo m=qo l/\K l:=⟨m,rfl,g⟩
theorem a3 {a b c G:Prop} (h:a/\b/\c) (g:G):(a/\b/\c)/\G:=⟨h,g⟩
end
class CO {R:Type} (P:Program) (e:Option R) (f:outParam FuncId) (args:outParam (List FV)) (objs:outParam (List AObj)) (m:outParam Nat) (res:outParam (R->FV)) (post:outParam (R->List AObj)):Prop where
 ok:∀ r,e=some r->zw P f args objs m (fun v lo=>v=res r/\lo=post r)
def qex:List FV->(List FV->Prop)->Prop
 | [],R=>R []
 | c::cs,R=>BX c fun c=>qex cs fun cs=>R (c::cs)
def qfe (o:AObj) (R:AObj->Prop):Prop:=
 match o with
 | .dead=>R .dead
 | .box t cs=>qex cs fun cs=>R (.box t cs)
 | .tail e z n=>R (.tail e z n)
 | .vec e z rows=>R (.vec e z rows)
 | .mp d es mk=>R (.mp d es mk)
 | .sit l p=>R (.sit l p)
 | .bv l=>R (.bv l)
 | .vl e z rows j k=>R (.vl e z rows j k)
 | .pbx t c=>R (.pbx t c)
def qde:List AObj->(List AObj->Prop)->Prop
 | [],R=>R []
 | o::l,R=>qfe o fun o=>qde l fun l=>R (o::l)
theorem SZ:∀{l:List FV} {R:List FV->Prop},qex l R=R l
 | [],_=>rfl
 | c::l,R=>by unfold qex; rw[Xc,SZ]
theorem qa0 {o:AObj} {R:AObj->Prop}:qfe o R=R o:=by
 cases o<;>first|rfl|(unfold qfe; simp only[SZ])
theorem LV:∀{l:List AObj} {R:List AObj->Prop},qde l R=R l
 | [],_=>rfl
 | o::l,R=>by unfold qde; rw[qa0,LV]
theorem sO {P:Program} {R A:Type} {f:FuncId} {args args':List FV} {objs lo:List AObj} {m:Nat} {res:R->FV} {post:R->List AObj} {e:Option R} {k:R->Option A} {r:A} {K:FV->List AObj->Prop} [CO P e f args objs m res post] (h:bnd e k=some r)
  (d:oC args' args [] fun a=>HJ lo 0 objs a fun l b=>(∀ x,k x=some r->BX ((res x).ren (σOf l m lo.length)) fun v=>qde (Dg l b m lo (post x)) fun g=>K v g) /\
   (lC 0 l b=true/\l.length=objs.length/\Gy objs.length args=true/\bY objs.length objs=true/\Nat.ble m objs.length=true/\(List.range m).all (fun i=>!b.contains i)=true)/\leArgs (πOf l) b args' args/\BI lo (πOf l) b 0 objs):zh P f args' lo K:=by
 obtain⟨x,h1,h2⟩:=qQ h;obtain⟨_,d⟩:=DT d;obtain⟨l,b,c,hw,j,n⟩:=Xx d;refine(CO.ok (P:=P) x h1).use l b hw j n ?_;rintro _ _ ⟨rfl,rfl⟩;have c:=c x h2;rw[Xc,LV]at c;exact⟨_,_,rfl,rfl,c⟩
theorem wkC {A B C D:Prop} (d:D) (a:A:=by exact⟨rfl,rfl,rfl,rfl,rfl,rfl⟩)
  (b:B:=by(repeat (first|exact trivial|exact .inl rfl|exact rfl|exact List.not_mem_nil|(refine .inr ?_)|(refine⟨?_,?_⟩)|exact List.length_set.symm|decide)); first|done|fail)
  (c:C:=by(repeat (first|exact trivial|exact .inl rfl|exact rfl|exact List.not_mem_nil|(refine .inr ?_)|(refine⟨?_,?_⟩)|exact List.length_set.symm|decide)); first|done|fail):D/\A/\B/\C:=⟨d,a,b,c⟩
theorem enO {m:Nat} {v0 a:FV} {lo b:List AObj} (w:EM m [(0,v0)] lo [(0,a)] b):∃ r c,(r=a/\c=b)/\Fg m [(0,v0)] lo [(0,r)] c:=⟨a,b,⟨rfl,rfl⟩,w.weak⟩
theorem lpD {P:Program} {inl:List Nat} {N nb:Nat} {body:Code} {K:KA} {E:Env} {lo:List AObj} {S R:Type} {keep:List Nat} {d:S->Env} {l:List Nat} {o:S->List (Nat×AObj)} {B:(S->Option R)->S->Option R} [LF B keep d l o] {n:Nat} {t:S} {r:R}
  (h:qy B n t=some r) (round:∀(next:S->Option R) (s:S),B next s=some r->FK E keep (d s) lo l (o s) (vc P inl N nb body (fun x E' lo'=>match x with
   | .normal=>∃ c,next c=some r/\FK E keep (d c) lo l (o c) (EM nb E' lo')
   | .exit i=>K (.exit i) E' lo'
   | .ret=>K .ret E' lo'))) (hw:FK E keep (d t) lo l (o t) (EM nb E lo)):uh P inl N nb body K E lo:=by
 intro hm F Lw bs ρ H a w G sat;subst G;obtain⟨ρ',g⟩:=(RT hw).weak.sat sat;refine wp_loop_ghost (I:=fun n a w=>∃ s ρ H,qy B n s=some r/\Sat bs N ρ H (qW (frE E keep (d s))) (obE lo (o s) 0 l) a w) n ⟨t,ρ',H,h,g⟩ fun n a w ⟨s,ρ,H,y,sat⟩=>?_;cases n with
 | zero=>cases y
 | succ n=>
  refine wp_mono (gM hm body _ _ _ F (RT (round (qy B n) s y)) bs ρ H a w rfl sat) fun e a w p=>?_;obtain⟨x,ρ2,u,C,j,D,b,k⟩:=p;cases x<;>cases e<;>simp only[Rz]at D
  ·obtain⟨c,m,v⟩:=k
   obtain⟨ρ3,q⟩:=(RT v).weak.sat b;exact⟨n,Nat.lt_succ_self _,c,ρ3,u,m,q⟩
  ·exact⟨.exit _,ρ2,u,C,j,D,b,k⟩
  exact⟨.ret,ρ2,u,C,j,trivial,b,k⟩
theorem cuD {P:Program} {inl:List Nat} {N nb:Nat} {x y:Code} {K:KA} {E:Env} {lo:List AObj} {S R:Type} {keep:List Nat} {d:S->Env} {l:List Nat} {o:S->List (Nat×AObj)} {k:S->Option R} {r:R} {t:Option R} (_:t=some r)
  (b:vc P inl N nb x (fun e E' lo'=>match e with|.normal=>∃ s,k s=some r/\FK E keep (d s) lo l (o s) (EM nb E' lo')|.exit i=>K (.exit i) E' lo'|.ret=>K .ret E' lo') E lo)
  (u:∀ s,k s=some r->FK E keep (d s) lo l (o s) (vc P inl N nb y K)):rI P inl N nb x y K E lo:=by
 intro hm c g Lw bs ρ H a w q s;refine wp_seq (wp_mono (gM hm x _ E lo c b bs ρ H a w q s) fun e a w p=>?_);obtain⟨v,ρ',H',E',lo',b,h,j⟩:=p;cases v<;>cases e<;>simp only[Rz]at b
 ·obtain⟨st,m,n⟩:=j
  subst q;obtain⟨ρ3,B⟩:=(RT n).weak.sat h;exact gM hm y K _ _ g (RT (u st m)) bs ρ3 H' a w rfl B
 ·exact⟨.exit _,ρ',H',E',lo',b,h,j⟩
 exact⟨.ret,ρ',H',E',lo',trivial,h,j⟩
theorem juD {nb:Nat} {E b:Env} {lo a:List AObj} {S R:Type} {keep:List Nat} {d:S->Env} {l:List Nat} {o:S->List (Nat×AObj)} {k:S->Option R} [LF k keep d l o] {r:R} {s:S} (h:k s=some r) (w:FK b keep (d s) a l (o s) (EM nb E lo)) :
  ∃ s,k s=some r/\FK b keep (d s) a l (o s) (EM nb E lo):=⟨s,h,w⟩
def Ld (z:Nat):List (List PV)->Bool
 | []=>true
 | r::l=>match Nat.beq r.length z with
  | true=>(match r.all Uq with|true=>Ld z l|false=>false)
  | false=>false
theorem CP {z:Nat}:∀{l:List (List PV)},Ld z l=true->∀ r∈l,r.length=z/\r.all Uq=true
 | [],_,r,hr=>by cases hr
 | a::l,h,r,hr=>by
  unfold Ld at h;split at h
  ·rename_i h1
   split at h
   ·rename_i h2
    cases hr with
    | head=>exact⟨Nat.eq_of_beq_eq_true h1,h2⟩
    | tail _ hr=>exact CP h r hr
   ·cases h
  cases h
theorem sL {rows:List (List PV)} {z:Nat} {K:List (List PV)->Prop} (g:K rows) (h:Ld z rows=true:=by rfl):(∀ r∈rows,r.length=z/\r.all Uq=true)/\∃ a,(rows=a\/Vw rows a)/\K a:=⟨CP h,rows,.inl rfl,g⟩
theorem wkR {A B C:Prop} (a:A:=by exact⟨rfl,rfl,rfl,rfl⟩)
  (b:B:=by(repeat (first|exact trivial|exact .inl rfl|exact rfl|exact List.not_mem_nil|(refine .inr ?_)|(refine⟨?_,?_⟩)|exact List.length_set.symm|decide)); first|done|fail)
  (c:C:=by(repeat (first|exact trivial|exact .inl rfl|exact rfl|exact List.not_mem_nil|(refine .inr ?_)|(refine⟨?_,?_⟩)|exact List.length_set.symm|decide)); first|done|fail):A/\B/\C:=⟨a,b,c⟩
theorem aO {n:Nat} {l c:List FV} {R:List FV->Prop} {G:Prop} (x:QU n l c R) (g:G):QU n l c R/\G:=⟨x,g⟩
class CE (P:Program) (f:FuncId) (fn:outParam Func) (inl:outParam (List Nat)):Prop where
 hm:P.follows .mixedOrders=true
 he:Enters P f
 hf:P.funcs[f]? =some fn
theorem sE {P:Program} {f:FuncId} {fn:Func} {args:List FV} {lo:List AObj} {R:FV->List AObj->Prop} {inl:List Nat} (i:CE P f fn inl) (a:RO inl fn args.length=true) (h:vcI P inl fn args lo R):zh P f args lo R:=zh.of_vc (CE.hm f) (CE.he) (CE.hf) a h
theorem sQn {B:Type} {C:Codec B} {z:Nat} {rows:List (List PV)} (x:B) {K:List (List PV)->Prop} (e:Vw rows (C.rows [x])) (g:K (C.rows [x])) (w:Ld z rows=true:=by rfl):(∀ r∈rows,r.length=z/\r.all Uq=true)/\∃ a,(rows=a\/Vw rows a)/\K a:=⟨CP w,_,.inr e,g⟩
class CK (P:Program) (p:Prop) (f:FuncId) (args:outParam (List FV)) (objs:outParam (List AObj)) (m:outParam Nat) (res:outParam FV) (post:outParam (List AObj)):Prop where
 ok:p->zw P f args objs m (fun v lo=>v=res/\lo=post)
theorem sK {P:Program} {A:Type} {p:Prop} [Decidable p] {f:FuncId} {args args':List FV} {objs lo:List AObj} {m:Nat} {res:FV} {post:List AObj} {k:Option A} {r:A} {K:FV->List AObj->Prop} (i:CK P p f args objs m res post) (h:chk (decide p) k=some r)
  (d:oC args' args [] fun a=>HJ lo 0 objs a fun l b=>(k=some r->BX (res.ren (σOf l m lo.length)) fun v=>qde (Dg l b m lo post) fun g=>K v g) /\
   (lC 0 l b=true/\l.length=objs.length/\Gy objs.length args=true/\bY objs.length objs=true/\Nat.ble m objs.length=true/\(List.range m).all (fun i=>!b.contains i)=true)/\leArgs (πOf l) b args' args/\BI lo (πOf l) b 0 objs):zh P f args' lo K:=by
 obtain⟨h1,h2⟩:=qu h;obtain⟨_,d⟩:=DT d;obtain⟨l,b,c,hw,j,n⟩:=Xx d;refine(CK.ok (P:=P) (kod h1)).use l b hw j n ?_;rintro _ _ ⟨rfl,rfl⟩;have c:=c h2;rw[Xc,LV]at c;exact⟨_,_,rfl,rfl,c⟩
end Ax
end
section
open Go Go.Proofs Ax Go.RowKit
namespace W
structure xu where
 env:Env
 g:Graph
 params:Val
def xu.cells:xu->List PV
 | ⟨⟨x1,x2⟩,⟨x3,x4⟩,⟨x5,x6,x7,x8,x9,x10⟩⟩=>[.sl (qv x1),.sl (Val.rows x2),.sl (Node.rows x3),.sl (Edge.rows x4),.int .i64 x5,.bool x6,.int .i64 x7,.str x8,.sl (Val.rows x9),.sl (qv x10)]
def xu.rows (l:List xu):List (List PV):=l.map xu.cells
def gA:Codec xu:={ cells:=xu.cells,rows:=xu.rows,z:=10,hrows:=fun _=>rfl,hz:=fun⟨⟨x1,x2⟩,⟨x3,x4⟩,⟨x5,x6,x7,x8,x9,x10⟩⟩=>rfl,hone:=fun⟨⟨x1,x2⟩,⟨x3,x4⟩,⟨x5,x6,x7,x8,x9,x10⟩⟩=>rfl }
deriving instance Inhabited for xu
structure tV where
 a:qf
 b:qf
def tV.cells:tV->List PV|⟨a,b⟩=>a.cells++b.cells
def tV.rows (l:List tV):List (List PV):=l.map tV.cells
def BT:Codec tV:={ cells:=tV.cells,rows:=tV.rows,z:=20,hrows:=fun _=>rfl,hz:=fun⟨a,b⟩=>by simp[tV.cells,qf.width],hone:=fun⟨a,b⟩=>by simp only[tV.cells,List.all_append,qf.one,Bool.and_self] }
deriving instance Inhabited for tV
inductive Any where
 | nul|b (x:Bool)|i (x:Int)|s (x:List UInt8)|l (x:List Val)|v (x:Val)
instance:Inhabited Any:=⟨.nul⟩
def Any.isnul:Any->Bool|.nul=>true|_=>false
def Any.tid:Any->TypeId
 | .nul=>4|.b _=>4|.i _=>2|.s _=>9|.l _=>23|.v _=>35
def Any.val:Any->PV
 | .nul=>.nilp
 | .b x=>.bool x
 | .i x=>.int .i64 x
 | .s x=>.str x
 | .l x=>.sl (Val.rows x)
 | .v x=>.agg (zx.cells x)
abbrev Any.pv (e:Any):PV:=.ifo e.isnul e.tid e.val
def Any.get_b:Any->Bool|.b x=>x|_=>false
def Any.is_b:Any->Bool|.b _=>true|_=>false
def Any.get_i:Any->Int|.i x=>x|_=>0
def Any.is_i:Any->Bool|.i _=>true|_=>false
def Any.get_s:Any->List UInt8|.s x=>x|_=>[]
def Any.is_s:Any->Bool|.s _=>true|_=>false
def Any.get_l:Any->List Val|.l x=>x|_=>[]
def Any.is_l:Any->Bool|.l _=>true|_=>false
theorem lG:ZeroIs Tryz.prog 4 (.bool false):=.of (.bool) (.bool false) (by kernel_rfl) (by intro m h; cases h) (by kernel_rfl) (fun H=>by simp[qO])
theorem lH:ZeroIs Tryz.prog 2 (.int .i64 0):=.of (.int .i64) (.int .i64 0) (by kernel_rfl) (by intro m h; cases h) (by kernel_rfl) (fun H=>by simp[qO])
theorem lJ:ZeroIs Tryz.prog 9 (.str []):=.of (.string) (.string ⟨#[]⟩) (by kernel_rfl) (by intro m h; cases h) (by kernel_rfl) (fun H=>by simp[qO])
theorem lI:ZeroIs Tryz.prog 23 (.sl (Val.rows [])):=.of (.slice 35) (.slice none 0 0) (by kernel_rfl) (by intro m h; cases h) (by kernel_rfl) (fun H=>by simp[qO,Val.rows])
theorem Any.as_b (e:Any):mf Tryz.prog e.pv 20 4 (.tup [.bool e.get_b,.bool e.is_b]):=by
 cases e with
 | nul=>exact bu (fun _=>Xp lG) (fun h=>by cases h)
 | b x=>exact bu (fun h=>by cases h) (fun _=>Ua lG)
 | _=>exact bu (fun h=>by cases h) (fun _=>Ub lG (by simp only[Any.tid]; decide))
theorem Any.as_i (e:Any):mf Tryz.prog e.pv 20 2 (.tup [.int .i64 e.get_i,.bool e.is_i]):=by
 cases e with
 | nul=>exact bu (fun _=>Xp lH) (fun h=>by cases h)
 | i x=>exact bu (fun h=>by cases h) (fun _=>Ua lH)
 | _=>exact bu (fun h=>by cases h) (fun _=>Ub lH (by simp only[Any.tid]; decide))
theorem Any.as_s (e:Any):mf Tryz.prog e.pv 20 9 (.tup [.str e.get_s,.bool e.is_s]):=by
 cases e with
 | nul=>exact bu (fun _=>Xp lJ) (fun h=>by cases h)
 | s x=>exact bu (fun h=>by cases h) (fun _=>Ua lJ)
 | _=>exact bu (fun h=>by cases h) (fun _=>Ub lJ (by simp only[Any.tid]; decide))
theorem Any.as_l (e:Any):mf Tryz.prog e.pv 20 23 (.tup [.sl (Val.rows e.get_l),.bool e.is_l]):=by
 cases e with
 | nul=>exact bu (fun _=>Xp lI) (fun h=>by cases h)
 | l x=>exact bu (fun h=>by cases h) (fun _=>Ua lI)
 | _=>exact bu (fun h=>by cases h) (fun _=>Ub lI (by simp only[Any.tid]; decide))
end W
end
section
set_option maxRecDepth 100000
open Go Go.Proofs Ax
namespace W
instance:CD (List UInt8):=⟨CZ⟩
instance:CD UInt8:=⟨zX⟩
instance:CD Val:=⟨zx⟩
instance:CD qf:=⟨uj⟩
instance:CD ql:=⟨bA⟩
instance:CD qp:=⟨nN⟩
instance:CD zL:=⟨Gf⟩
instance:CD gO:=⟨PR⟩
instance:CD xf:=⟨Dz⟩
instance:CD qD:=⟨QZ⟩
instance:CD qE:=⟨dv⟩
instance:CD ZZ:=⟨EA⟩
instance:CD qk:=⟨CT⟩
instance:CD Node:=⟨me⟩
instance:CD Edge:=⟨mc⟩
instance:CD Graph:=⟨uI⟩
instance:CD Env:=⟨Nh⟩
instance:CD fZ:=⟨Di⟩
instance:CD State:=⟨tF⟩
instance:CD Given:=⟨Vd⟩
instance:CD Made:=⟨pX⟩
instance:CD xu:=⟨gA⟩
instance:CD tV:=⟨BT⟩
instance:CD Int:=⟨qa5 .i64⟩
instance:CD (List Made):=⟨slC pX⟩
instance (x:List (List UInt8)):CK Tryz.prog ((qv x).length * 16<=140737488355328) 56 [.p (.sl (qv x))] [] 0 (.tsl 0 (qv x)) [.tail 9 1 (qv x).length]:=⟨Fo x⟩
instance:CE Tryz.prog 95 Tryz.f95 [141,1000000]:=⟨mixed,fun _ _=>Tryz.call95 _ _,Tryz.func95⟩
instance:CE Tryz.prog 47 Tryz.f47 [95,1000000]:=⟨mixed,fun _ _=>Tryz.call47 _ _,Tryz.func47⟩
instance:CE Tryz.prog 49 Tryz.f49 [95,1000000]:=⟨mixed,fun _ _=>Tryz.call49 _ _,Tryz.func49⟩
instance:CE Tryz.prog 46 Tryz.f46 [47,49,1000000]:=⟨mixed,fun _ _=>Tryz.call46 _ _,Tryz.func46⟩
instance:CE Tryz.prog 202 Tryz.f202 [1000000]:=⟨mixed,fun _ _=>Tryz.call202 _ _,Tryz.func202⟩
instance:CE Tryz.prog 173 Tryz.f173 [202,1000000]:=⟨mixed,fun _ _=>Tryz.call173 _ _,Tryz.func173⟩
instance:CE Tryz.prog 142 Tryz.f142 [95,173,1000000]:=⟨mixed,fun _ _=>Tryz.call142 _ _,Tryz.func142⟩
instance:CE Tryz.prog 144 Tryz.f144 [47,49,1000000]:=⟨mixed,fun _ _=>Tryz.call144 _ _,Tryz.func144⟩
theorem Pf (l:List Node) (k:Nat):List.take k (Node.rows l)=Node.rows (l.take k):=Codec.take me l k
theorem Nf (l:List Node) (k:Nat):List.drop k (Node.rows l)=Node.rows (l.drop k):=Codec.drop me l k
theorem Na (l:List Node) (k:Nat):List.drop k (List.take (Node.rows l).length (Node.rows l))=Node.rows (l.drop k):=Codec.dropAll me l k
theorem Pe (l:List Edge) (k:Nat):List.take k (Edge.rows l)=Edge.rows (l.take k):=Codec.take mc l k
theorem Nd (l:List Edge) (k:Nat):List.drop k (Edge.rows l)=Edge.rows (l.drop k):=Codec.drop mc l k
theorem MZ (l:List Edge) (k:Nat):List.drop k (List.take (Edge.rows l).length (Edge.rows l))=Edge.rows (l.drop k):=Codec.dropAll mc l k
theorem qal (a b:List (List UInt8)):qv a++qv b=qv (a++b):=Codec.append CZ a b
theorem qao (a b:List (List UInt8)):qv a++CZ.rows b=qv (a++b):=Codec.append CZ a b
theorem lT (a b:List UInt8):qo a++qo b=qo (a++b):=Codec.append zX a b
theorem ad (a b:List UInt8):qo a++zX.rows b=qo (a++b):=Codec.append zX a b
theorem qam (a b:List Val):Val.rows a++Val.rows b=Val.rows (a++b):=Codec.append zx a b
theorem qap (a b:List Val):Val.rows a++zx.rows b=Val.rows (a++b):=Codec.append zx a b
theorem lV (a b:List qf):qf.rows a++qf.rows b=qf.rows (a++b):=Codec.append uj a b
theorem ag (a b:List qf):qf.rows a++uj.rows b=qf.rows (a++b):=Codec.append uj a b
theorem Lx (a b:List ql):ql.rows a++ql.rows b=ql.rows (a++b):=Codec.append bA a b
theorem LA (a b:List ql):ql.rows a++bA.rows b=ql.rows (a++b):=Codec.append bA a b
theorem Lv (a b:List qp):qp.rows a++qp.rows b=qp.rows (a++b):=Codec.append nN a b
theorem Lz (a b:List qp):qp.rows a++nN.rows b=qp.rows (a++b):=Codec.append nN a b
theorem lZ (a b:List zL):zL.rows a++zL.rows b=zL.rows (a++b):=Codec.append Gf a b
theorem ak (a b:List zL):zL.rows a++Gf.rows b=zL.rows (a++b):=Codec.append Gf a b
theorem lW (a b:List gO):gO.rows a++gO.rows b=gO.rows (a++b):=Codec.append PR a b
theorem ah (a b:List gO):gO.rows a++PR.rows b=gO.rows (a++b):=Codec.append PR a b
theorem Sf (a b:List xf):xf.rows a++xf.rows b=xf.rows (a++b):=Codec.append Dz a b
theorem Sn (a b:List xf):xf.rows a++Dz.rows b=xf.rows (a++b):=Codec.append Dz a b
theorem Ly (a b:List qD):qD.rows a++qD.rows b=qD.rows (a++b):=Codec.append QZ a b
theorem LB (a b:List qD):qD.rows a++QZ.rows b=qD.rows (a++b):=Codec.append QZ a b
theorem Pt (a b:List qE):qE.rows a++qE.rows b=qE.rows (a++b):=Codec.append dv a b
theorem Pu (a b:List qE):qE.rows a++dv.rows b=qE.rows (a++b):=Codec.append dv a b
theorem aa (a b:List ZZ):ZZ.rows a++ZZ.rows b=ZZ.rows (a++b):=Codec.append EA a b
theorem al (a b:List ZZ):ZZ.rows a++EA.rows b=ZZ.rows (a++b):=Codec.append EA a b
theorem Sh (a b:List qk):qk.rows a++qk.rows b=qk.rows (a++b):=Codec.append CT a b
theorem Sq (a b:List qk):qk.rows a++CT.rows b=qk.rows (a++b):=Codec.append CT a b
theorem lY (a b:List Node):Node.rows a++Node.rows b=Node.rows (a++b):=Codec.append me a b
theorem aj (a b:List Node):Node.rows a++me.rows b=Node.rows (a++b):=Codec.append me a b
theorem lU (a b:List Edge):Edge.rows a++Edge.rows b=Edge.rows (a++b):=Codec.append mc a b
theorem ae (a b:List Edge):Edge.rows a++mc.rows b=Edge.rows (a++b):=Codec.append mc a b
theorem Sc (a b:List Graph):Graph.rows a++Graph.rows b=Graph.rows (a++b):=Codec.append uI a b
theorem Sk (a b:List Graph):Graph.rows a++uI.rows b=Graph.rows (a++b):=Codec.append uI a b
theorem qak (a b:List Env):Env.rows a++Env.rows b=Env.rows (a++b):=Codec.append Nh a b
theorem qan (a b:List Env):Env.rows a++Nh.rows b=Env.rows (a++b):=Codec.append Nh a b
theorem Sd (a b:List fZ):fZ.rows a++fZ.rows b=fZ.rows (a++b):=Codec.append Di a b
theorem Sl (a b:List fZ):fZ.rows a++Di.rows b=fZ.rows (a++b):=Codec.append Di a b
theorem Sg (a b:List State):State.rows a++State.rows b=State.rows (a++b):=Codec.append tF a b
theorem Sp (a b:List State):State.rows a++tF.rows b=State.rows (a++b):=Codec.append tF a b
theorem Sb (a b:List Given):Given.rows a++Given.rows b=Given.rows (a++b):=Codec.append Vd a b
theorem Sj (a b:List Given):Given.rows a++Vd.rows b=Given.rows (a++b):=Codec.append Vd a b
theorem lX (a b:List Made):Made.rows a++Made.rows b=Made.rows (a++b):=Codec.append pX a b
theorem ai (a b:List Made):Made.rows a++pX.rows b=Made.rows (a++b):=Codec.append pX a b
theorem Se (a b:List xu):xu.rows a++xu.rows b=xu.rows (a++b):=Codec.append gA a b
theorem Sm (a b:List xu):xu.rows a++gA.rows b=xu.rows (a++b):=Codec.append gA a b
theorem Sa (a b:List tV):tV.rows a++tV.rows b=tV.rows (a++b):=Codec.append BT a b
theorem Si (a b:List tV):tV.rows a++BT.rows b=tV.rows (a++b):=Codec.append BT a b
abbrev RA0 (r:Bool):PV:=PV.bool r
abbrev RA1 (r:Int×Bool):PV:=PV.tup [PV.int .i64 r.1,PV.bool r.2]
abbrev RA2 (r:Int):PV:=PV.int .i64 r
abbrev RA3 (r:qE):PV:=PV.agg (dv.cells r)
abbrev RA4 (r:List (List UInt8)):PV:=PV.sl (qv r)
abbrev RA5 (r:List UInt8):PV:=PV.str r
abbrev RA6 (r:List UInt8×Bool):PV:=PV.tup [PV.str r.1,PV.bool r.2]
abbrev RA7 (r:Int×Int):PV:=PV.tup [PV.int .i64 r.1,PV.int .i64 r.2]
abbrev RA8 (r:List UInt8×Int×Bool):PV:=PV.tup [PV.str r.1,PV.int .i64 r.2.1,PV.bool r.2.2]
abbrev RA9 (r:qk×Int×Int):PV:=PV.tup [PV.agg (CT.cells r.1),PV.int .i64 r.2.1,PV.int .i64 r.2.2]
abbrev qgn (r:List qk×Int×Int):PV:=PV.tup [PV.sl (qk.rows r.1),PV.int .i64 r.2.1,PV.int .i64 r.2.2]
abbrev qfy (r:qf):PV:=PV.agg (uj.cells r)
abbrev qgo (r:ZZ×Int×Int):PV:=PV.tup [PV.agg (EA.cells r.1),PV.int .i64 r.2.1,PV.int .i64 r.2.2]
abbrev lL (r:Val):PV:=PV.agg (zx.cells r)
abbrev qgp (r:List (List UInt8)×List Val):PV:=PV.tup [PV.sl (qv r.1),PV.sl (Val.rows r.2)]
abbrev qgq (r:Node):PV:=PV.agg (me.cells r)
abbrev qgr (r:Edge):PV:=PV.agg (mc.cells r)
abbrev qfz (r:Graph):PV:=PV.agg (uI.cells r)
abbrev qgs (r:Val×Bool):PV:=PV.tup [PV.agg (zx.cells r.1),PV.bool r.2]
abbrev rH (r:Val×Int):PV:=PV.tup [PV.agg (zx.cells r.1),PV.int .i64 r.2]
abbrev qf0 (r:Node×Bool):PV:=PV.tup [PV.agg (me.cells r.1),PV.bool r.2]
abbrev qgt (r:Edge×Bool):PV:=PV.tup [PV.agg (mc.cells r.1),PV.bool r.2]
abbrev qgu (r:List (List UInt8)×List Val×Bool):PV:=PV.tup [PV.sl (qv r.1),PV.sl (Val.rows r.2.1),PV.bool r.2.2]
abbrev qgv (r:Any):PV:=(Any.pv r)
abbrev qgw (r:List Val):PV:=PV.sl (Val.rows r)
abbrev qgx (r:Int):PV:=PV.int .u64 r
abbrev qgy (r:Int×Int):PV:=PV.tup [PV.int .u64 r.1,PV.int .u64 r.2]
abbrev qcl (r:List Val×Int):PV:=PV.tup [PV.sl (Val.rows r.1),PV.int .i64 r.2]
abbrev qgz (r:List Node):PV:=PV.sl (Node.rows r)
abbrev qag (r:Graph×Int):PV:=PV.tup [PV.agg (uI.cells r.1),PV.int .i64 r.2]
abbrev qe8 (r:List Edge):PV:=PV.sl (Edge.rows r)
abbrev qf1 (r:Env×State×Int):PV:=PV.tup [PV.agg (Nh.cells r.1),PV.agg (tF.cells r.2.1),PV.int .i64 r.2.2]
abbrev qf2 (r:State×Int):PV:=PV.tup [PV.agg (tF.cells r.1),PV.int .i64 r.2]
theorem au {P:Prop} (e:P:=by
  repeat' ((conv=>whnf); first
    | done
    | with_reducible refine ifc h (fun _ h=>?_) (fun _ h=>?_)
    | refine And.intro (fun h=>h) ?_
    | ((with_reducible refine sHi h ?_ ?_); (first|exact id|exact fun h=>⟨h.1,h.2⟩|exact fun h=>⟨h,Nat.le_refl _⟩|(intro h; omega)); (try clear h); intro h)
    | with_reducible refine aO ?_ ?_
    | apply cuD h
    | ((with_reducible intro y h); (repeat (rcases(y:_×_)with ⟨_,y⟩)); (repeat first|cases ‹qE› | cases ‹ZZ› | cases ‹zL› | cases ‹ql› | cases ‹qp› | cases ‹gO› | cases ‹xf› | cases ‹qD› | cases ‹qf› | cases ‹Val›))
    | exact⟨_,h,by(conv=>whnf); exact wkR⟩
    | exact juD h (by(conv=>whnf); exact wkR)
    | refine sE (P:=Tryz.prog) (by infer_instance) (by kernel_rfl) ?_
    | refine zh.noEscape Tryz.func141 (by kernel_rfl) (by kernel_rfl) (by kernel_rfl) (by kernel_rfl) ?_
    | refine zh.string_any (T:=124) (E:=5) DV tT tS (k:=0) rfl rfl ?_
    | (refine sU h ?_; (try clear h); intro _ h)
    | (refine sU2 h ?_; (try clear h); intro _ _ h)
    | (refine sU3 h ?_; (try clear h); intro _ _ _ h)
    | (refine sU4 h ?_; (try clear h); intro _ _ _ _ h)
    | refine sQ (C:=CZ) _ rfl ?_
    | refine sQ (C:=zX) _ rfl ?_
    | refine sW ?_
    | refine sQn (C:=nN) (qp.mk _ _ _ [] []) ⟨⟨rfl,rfl,rfl,rfl,rfl,trivial⟩,trivial⟩ ?_
    | refine sQn (C:=Gf) (zL.mk _ []) ⟨⟨rfl,rfl,trivial⟩,trivial⟩ ?_
    | refine sQ (C:=zx) (Val.mk _ _ _ _ _ _) rfl ?_
    | refine sQ (C:=uj) (qf.mk _ _ (Val.mk _ _ _ _ _ _) _ _) rfl ?_
    | refine sQ (C:=bA) (ql.mk _ _ _ _) rfl ?_
    | refine sQ (C:=nN) (qp.mk _ _ _ _ _) rfl ?_
    | refine sQ (C:=Gf) (zL.mk _ _) rfl ?_
    | refine sQ (C:=PR) (gO.mk (qf.mk _ _ (Val.mk _ _ _ _ _ _) _ _) _) rfl ?_
    | refine sQ (C:=Dz) (xf.mk (qf.mk _ _ (Val.mk _ _ _ _ _ _) _ _) _) rfl ?_
    | refine sQ (C:=QZ) (qD.mk _ _ _ (qf.mk _ _ (Val.mk _ _ _ _ _ _) _ _)) rfl ?_
    | refine sQ (C:=dv) (qE.mk _ _ _ (qf.mk _ _ (Val.mk _ _ _ _ _ _) _ _) _ _ _ _ _ _ _ _ _) rfl ?_
    | refine sQ (C:=EA) (ZZ.mk _) rfl ?_
    | refine sQ (C:=CT) (qk.mk _ _ _ _) rfl ?_
    | refine sQ (C:=me) (Node.mk _ _ _ _) rfl ?_
    | refine sQ (C:=mc) (Edge.mk _ _ _ _ _ _) rfl ?_
    | refine sQ (C:=uI) (Graph.mk _ _) rfl ?_
    | refine sQ (C:=Nh) (Env.mk _ _) rfl ?_
    | refine sQ (C:=Di) (fZ.mk _ _) rfl ?_
    | refine sQ (C:=tF) (State.mk (Graph.mk _ _) (fZ.mk _ _)) rfl ?_
    | refine sQ (C:=Vd) (Given.mk (Env.mk _ _) (State.mk (Graph.mk _ _) (fZ.mk _ _)) (Val.mk _ _ _ _ _ _)) rfl ?_
    | refine sQ (C:=pX) (Made.mk _ _) rfl ?_
    | refine sQ (C:=gA) (xu.mk (Env.mk _ _) (Graph.mk _ _) (Val.mk _ _ _ _ _ _)) rfl ?_
    | refine sQ (C:=BT) (tV.mk (qf.mk _ _ (Val.mk _ _ _ _ _ _) _ _) (qf.mk _ _ (Val.mk _ _ _ _ _ _) _ _)) rfl ?_
    | (refine sP h ?_ (by first|exact Codec.wide CZ _|exact Codec.wide zX _|exact Codec.wide zx _|exact Codec.wide uj _|exact Codec.wide bA _|exact Codec.wide nN _|exact Codec.wide Gf _|exact Codec.wide PR _|exact Codec.wide Dz _|exact Codec.wide QZ _|exact Codec.wide dv _|exact Codec.wide EA _|exact Codec.wide CT _|exact Codec.wide me _|exact Codec.wide mc _|exact Codec.wide uI _|exact Codec.wide Nh _|exact Codec.wide Di _|exact Codec.wide tF _|exact Codec.wide Vd _|exact Codec.wide pX _|exact Codec.wide gA _|exact Codec.wide BT _); (try clear h); intro h)
    | refine a3 ⟨rfl,rfl,rfl⟩ ?_
    | refine sB ?_
    | refine⟨1,rfl,?_⟩
    | refine⟨0,rfl,?_⟩
    | refine⟨2,rfl,?_⟩
    | refine⟨List.replicate 20 (0:UInt8),rfl,?_⟩
    | refine⟨List.replicate 10 (0:UInt8),rfl,?_⟩
    | refine rU (l:=[239,191,189]) rfl ?_ rfl
    | refine⟨([48,49,50,51,52,53,54,55,56,57]:List UInt8),⟨rfl,rfl,rfl,rfl,rfl⟩,?_⟩
    | refine sL ?_
    | ((with_reducible obtain rfl:=sj h); (conv=>whnf); first|done|exact enO (by(conv=>whnf); exact wkR)|((repeat (first|exact rfl|exact trivial|refine⟨?_,?_⟩)); first|done|fail)|skip)
    | simp only[List.take_length,List.drop_zero,Na,Pf,Nf,MZ,Pe,Nd]
    | ((first|refine sC h ?_|refine sG h ?_|refine sI h ?_|refine sJ h ?_|refine sM h ?_ (by(repeat (first|exact trivial|exact rfl|exact .inl rfl|refine⟨?_,?_⟩)); first|done|fail)|refine sN h ?_ (by(repeat (first|exact trivial|exact rfl|exact .inl rfl|refine⟨?_,?_⟩)); first|done|fail)|refine sS h ?_|refine sT h ?_|refine sV h ?_); (try clear h); intro y h; (repeat (rcases(y:_×_)with ⟨_,y⟩)); (repeat first|cases ‹qE› | cases ‹ZZ› | cases ‹zL› | cases ‹ql› | cases ‹qp› | cases ‹gO› | cases ‹xf› | cases ‹qD› | cases ‹qf› | cases ‹Val›))
    | (refine sH h ?_; (try clear h); intro h)
    | refine ifc h (fun _ h=>?_) (fun _ h=>?_)
    | (refine sO (P:=Tryz.prog) h ?_; (try clear h); (conv=>whnf); refine wkC ?_; intro y h; (repeat (rcases(y:_×_)with ⟨_,y⟩)); (repeat first|cases ‹qE› | cases ‹ZZ› | cases ‹zL› | cases ‹ql› | cases ‹qp› | cases ‹gO› | cases ‹xf› | cases ‹qD› | cases ‹qf› | cases ‹Val›))
    | (first|refine⟨_,Any.as_i _,?_⟩|refine⟨_,Any.as_s _,?_⟩|refine⟨_,Any.as_b _,?_⟩|refine⟨_,Any.as_l _,?_⟩)
    | refine⟨(_:Bool),(_:Nat),⟨rfl,rfl⟩,?_⟩
    | refine And.intro (by assumption) ?_
    | (obtain⟨_,c,h⟩:=qQ h; refine⟨_,qcz (k:=.i64) c rfl (by decide),?_⟩)
    | (obtain⟨b,h⟩:=qu h; first|refine⟨⟨Nat.zero_le _,kod b,(by first|exact Codec.wide mc _|exact Codec.wide me _)⟩,?_⟩|refine⟨⟨(kod b).1,(kod b).2,(by first|exact Codec.wide mc _|exact Codec.wide me _)⟩,?_⟩|refine⟨⟨kod b,Nat.le_refl _,(by first|exact Codec.wide mc _|exact Codec.wide me _)⟩,?_⟩)
    | (first|refine⟨true,Codec.ne_nil mc _ _,?_⟩|refine⟨true,Codec.ne_nil me _ _,?_⟩|refine⟨false,_,rfl,?_⟩)
    | (obtain⟨x,c,h⟩:=qQ h; have c:=cV c; obtain⟨b,h⟩:=qu h; first
     | refine⟨x,⟨(by first|trivial|rfl),c,kod b,xY b (by decide)⟩,?_⟩
     | refine⟨x,Val.rows (List.replicate x (Val.mk 0 false 0 [] [] [])),⟨c,c,kod b,xY b (by decide),Codec.madeN zx _ x (by(repeat (first|exact rfl|exact trivial|refine⟨?_,?_⟩)); first|done|fail),rfl,by decide,rfl⟩,?_⟩
     | refine⟨x,qv (List.replicate x []),⟨c,c,kod b,xY b (by decide),Codec.made CZ _ x rfl,rfl,by decide,rfl⟩,?_⟩
     | refine⟨x,xZ .i64 (List.replicate x 0),⟨c,c,kod b,xY b (by decide),Codec.made (qa5 .i64) _ x rfl,rfl,by decide,rfl⟩,?_⟩)
    | refine⟨rfl,DQ rfl,?_⟩
    | (obtain⟨b,h⟩:=qu h; refine⟨⟨(by first|trivial|rfl),kod b,(by first|exact Codec.wide zx _|exact Codec.wide CZ _|exact Codec.wide (qa5 .i64) _)⟩,?_⟩)
    | (obtain⟨_,c,h⟩:=qQ h; refine⟨_,fun d=>cV (fC c d),?_⟩)
    | (obtain⟨b,h⟩:=qu h; refine⟨fun d=>⟨Nat.zero_le _,kod (gd b d)⟩,?_⟩)
    | (obtain⟨b,h⟩:=qu h; refine⟨fun d=>⟨kod (gd b d),Nat.le_refl _⟩,?_⟩)
    | (refine sK (P:=Tryz.prog) (by infer_instance) h ?_; (try clear h); (conv=>whnf); refine wkC ?_; intro h)
    | (first|refine⟨fun hf=>absurd hf (by first|decide|(simp; first|done|fail)),fun _=>?_⟩|refine⟨fun _=>?_,fun hf=>absurd hf (by first|decide|(simp; first|done|fail))⟩)
    | refine And.intro ⟨by decide,Nat.zero_lt_succ _⟩ ?_
    | exact enO (by(conv=>whnf); exact wkR)
    | (dsimp only at h; first|exact⟨_,h,by(conv=>whnf); exact wkR⟩|exact juD h (by(conv=>whnf); exact wkR))
    | (refine lpD h ?_ (by(conv=>whnf); exact wkR); (try clear h); intro _ y h; (repeat (rcases(y:_×_)with ⟨_,y⟩)); (repeat first|cases ‹qE› | cases ‹ZZ› | cases ‹zL› | cases ‹ql› | cases ‹qp› | cases ‹gO› | cases ‹xf› | cases ‹qD› | cases ‹qf› | cases ‹Val›))
    | refine And.intro (by first|decide|(unfold gI; decide)) ?_
    | refine⟨.p (.bool false),?_⟩
    | refine And.intro (a:=_=true) (by kernel_rfl) ?_
    | (obtain rfl:=sj h; (conv=>whnf); first|done|exact enO (by(conv=>whnf); exact wkR)|((repeat (first|exact rfl|exact trivial|refine⟨?_,?_⟩)); first|done|fail)|skip)
    | (cases sj h; (conv=>whnf); first|done|exact enO (by(conv=>whnf); exact wkR)|((repeat (first|exact rfl|exact trivial|refine⟨?_,?_⟩)); first|done|fail)|skip)
    | (simp only[List.take_length,List.drop_zero,Na,Pf,Nf,MZ,Pe,Nd,qao,qal,ad,lT,qap,qam,ag,lV,LA,Lx,Lz,Lv,ak,lZ,ah,lW,Sn,Sf,LB,Ly,Pu,Pt,al,aa,Sq,Sh,aj,lY,ae,lU,Sk,Sc,qan,qak,Sl,Sd,Sp,Sg,Sj,Sb,ai,lX,Sm,Se,Si,Sa]))):P:=e
end W
end
section
open Go Go.Proofs Go.RowKit
namespace Ax
end Ax
end
section
open Go Go.Proofs Ax Go.RowKit Go.Shelf
namespace W
end W
end
section
namespace Go.Proofs
open Go.Shelf Go.RowKit Go.Lib Go.Sort
abbrev lsD (g:Nat) (lb:Array Value) (sf:Nat) (sb:Array Value):Value:=.agg #[.func (.func g) #[] lb,.func (.func sf) #[] sb]
abbrev QQ (ρ:Ren) (g:Nat) (lb:Array Value) (sf:Nat) (sb:Array Value) (W:World):World:=W.alloc (.cells #[.func (.func g) #[] lb,.func (.func sf) #[] sb] (ρ.t 42))
section
variable {P:Program} {α:Type} [Inhabited α] {enc:α->Value} {lt:α->α->Bool} {g:Nat} {lb:Array Value} {sf:Nat} {sb:Array Value} {blk off:Nat} {W:World} {d dk:Array α}
theorem SW.trans' {w0:World} (h:SW enc w0 blk off d W) (a:blk<w0.heap.size) {w:World} (b:SW enc W blk off dk w) (c:dk.size=d.size):SW enc w0 blk off dk w:=by
 obtain⟨m,os,rfl⟩:=b;exact h.on a m dk os c
theorem SW.cell' {w:World} (c:SW enc W blk off dk w) {b o:Nat} {v:Value} (e:b≠blk) (a:b<W.heap.size) (h:W.cell? ⟨b,o,none⟩=some v):w.cell? ⟨b,o,none⟩=some v:=by
 obtain⟨n,os,rfl⟩:=c;unfold sortWorld;rw[cell?_grow _ _ _ (by rw[size_putRow]; exact a),cell?_putRow_other enc _ blk off _ _ (Or.inl e)];exact h
structure SSt (P:Program) (enc:α->Value) (lt:α->α->Bool) (g:Nat) (lb:Array Value) (sf:Nat) (sb:Array Value) (blk off:Nat) (d:Array α) (W:World):Prop where
 eg:∀ args w,(callFunc g args).run P w=.ok (.enter g args) w
 less:LessReads P g lb enc lt blk off d.size W
 swap:SwapSwaps P sf sb enc blk off d.size
 holds:Holds enc W blk off d
 blkLt:blk<W.heap.size
 big:d.size<4611686018427387904
theorem SSt.on (h:SSt P enc lt g lb sf sb blk off d W) {w:World} (b:SW enc W blk off dk w) (a:dk.size=d.size):SSt P enc lt g lb sf sb blk off dk w:=
 ⟨h.eg,by rw[a]; exact b.lessReads h.less h.blkLt a,by rw[a]; exact h.swap,b.holds h.blkLt h.holds a,b.lt h.blkLt,by rw[a]; exact h.big⟩
theorem SSt.start (h:SSt P enc lt g lb sf sb blk off d W):SW enc W blk off d W:=.start h.holds
theorem SSt.lessAt (h:SSt P enc lt g lb sf sb blk off d W) (i j:Nat) (a:i<d.size) (b:j<d.size) :
  Calls P g (#[.int .i64 i,.int .i64 j]++lb) W fun e w'=>e=.returned (.bool (lt d[i]! d[j]!))/\∃ q,w'=W.drewN q:=h.start.less h.less rfl i j a b
def gL (a b:Nat):Nat->Nat->Array α->Array α
 | 0,_,d=>d
 | k+1,i,d=>gL a b k (i+1) (swp d (a+i) (b+i))
theorem xX (a b:Nat):∀(k i:Nat) (d:Array α),(gL a b k i d).size=d.size
 | 0,_,_=>rfl
 | k+1,i,d=>by unfold gL; rw[xX a b k,size_swp]
def xU (m:Nat):Nat->Nat->Nat->Array α->Array α
 | 0,i,_,d=>gL (m - i) m i 0 d
 | f+1,i,j,d=>if i=j then gL (m - i) m i 0 d else if j<i then xU m f (i - j) j (gL (m - i) m j 0 d)else xU m f i (j - i) (gL (m - i) (m+j - i) i 0 d)
theorem zU (m:Nat):∀(f i j:Nat) (d:Array α),(xU m f i j d).size=d.size
 | 0,i,_,d=>xX _ _ _ _ _
 | f+1,i,j,d=>by
  unfold xU;split
  ·exact xX _ _ _ _ _
  split
  ·rw[zU m f,xX]
  rw[zU m f,xX]
theorem My (m f i:Nat) (d:Array α):xU m f i i d=gL (m - i) m i 0 d:=by
 cases f with
 | zero=>rfl
 | succ f=>unfold xU; rw[if_pos rfl]
end
variable {P:Program} {ρ:Ren} {α:Type} [Inhabited α] {enc:α->Value} {lt:α->α->Bool} {g:Nat} {lb:Array Value} {sf:Nat} {sb:Array Value} {blk off:Nat}
theorem SSt.box {W:World} {d:Array α} (h:SSt P enc lt g lb sf sb blk off d W):SW enc W blk off d (QQ ρ g lb sf sb W):=h.start.alloc _
set_option maxHeartbeats 2000000 in
set_option maxRecDepth 100000 in
theorem Any.swapRange_func (L:LaysGt.n15 P ρ) {d:Array α} {W:World} (h:SSt P enc lt g lb sf sb blk off d W) (a b n:Nat) (y:a+n<=d.size) (z:b+n<=d.size) :
  Calls P (ρ.f 49) #[lsD g lb sf sb,.int .i64 a,.int .i64 b,.int .i64 n] W fun e w'=>e=.returned (.tuple #[])/\SW enc W blk off (gL a b n 0 d) w':=by
 have mixed:=L.mixed; have t0:=L.t0; have a0:=L.a0; have z0:=L.z0; have v0:=L.v0; have t3:=L.t3; have a3:=L.a3; have z3:=L.z3; have v3:=L.v3; have t4:=L.t4; have a4:=L.a4; have z4:=L.z4; have v4:=L.v4; have t26:=L.t26; have a26:=L.a26; have z26:=L.z26; have v26:=L.v26; have t38:=L.t38; have a38:=L.a38; have z38:=L.z38; have v38:=L.v38; have t42:=L.t42; have a42:=L.a42; have z42:=L.z42; have v42:=L.v42; have t47:=L.t47; have a47:=L.a47; have z47:=L.z47; have v47:=L.v47;have u42:=kru L.t42;have k:W.heap.size≠blk:=by have:=h.blkLt; omega
 have q:=h.big;have c:SW enc W blk off d (QQ ρ g lb sf sb W):=h.box
 go_enter L.f49,BodyGt.n49_ntmps ρ
 go_wp2
 go_loopw [8] (fun p wr=>∃(i:Nat) (dk:Array α),p=.int .i64 i/\i<=n/\dk.size=d.size/\SW enc (QQ ρ g lb sf sb W) blk off dk wr/\gL a b (n - i) i dk=gL a b n 0 d) (fun p _=>n - (intOf p).toNat)
 case atStart=>exact⟨0,d,by go_num,by omega,rfl,.start (c.holds h.blkLt h.holds rfl),rfl⟩
 case round=>
  obtain⟨i,dk,rfl,t,j,l,r⟩:=hrel;have HO:Hid (gL a b (n - i) i dk=gL a b n 0 d):=r;clear r;have c0:=l.cell' (v:=.func (.func g) #[] lb) (o:=0) k (by simp) (by simp);have c1:=l.cell' (v:=.func (.func sf) #[] sb) (o:=1) k (by simp) (by simp);have m:=h.on (c.trans' h.blkLt l j) j
  go_wp2
  ·have u:i<n:=by assumption
   have s:=m.swap wr dk m.holds rfl (a+i) (b+i) (by omega) (by omega);rw[show(((a+i:Nat):Int))=(a:Int)+i by omega,show(((b+i:Nat):Int))=(b:Int)+i by omega]at s;rw[s,Oper.upon_value]
   go_wp2
   go_roundw
   case rel=>
    refine⟨i+1,swp dk (a+i) (b+i),by congr 1<;>omega,by omega,by rw[size_swp]; exact j,l.swap (c.lt h.blkLt) (a+i) (b+i) (by omega) (by omega),?_⟩;rw[← HO.out,show n - i=(n - (i+1))+1 by omega]; rfl
   case measure=>simp[intOf]; omega
  ·have x:¬ i<n:=by assumption
   go_end0
   refine⟨rfl,c.trans' h.blkLt (w:=wr) (dk:=gL a b n 0 d) ?_ (by rw[xX])⟩;rw[← HO.out,show n - i=0 by omega];exact l
set_option maxHeartbeats 2000000 in
set_option maxRecDepth 100000 in
theorem Any.rotate_func (L:LaysGt.n15 P ρ) {d:Array α} {W:World} (h:SSt P enc lt g lb sf sb blk off d W) (a m b:Nat) (A:a<m) (B:m<b) (E:b<=d.size) :
  Calls P (ρ.f 42) #[lsD g lb sf sb,.int .i64 a,.int .i64 m,.int .i64 b] W fun e w'=>e=.returned (.tuple #[])/\SW enc W blk off (xU m (b - a) (m - a) (b - m) d) w':=by
 have mixed:=L.mixed; have t0:=L.t0; have a0:=L.a0; have z0:=L.z0; have v0:=L.v0; have t3:=L.t3; have a3:=L.a3; have z3:=L.z3; have v3:=L.v3; have t4:=L.t4; have a4:=L.a4; have z4:=L.z4; have v4:=L.v4; have t26:=L.t26; have a26:=L.a26; have z26:=L.z26; have v26:=L.v26; have t38:=L.t38; have a38:=L.a38; have z38:=L.z38; have v38:=L.v38; have t42:=L.t42; have a42:=L.a42; have z42:=L.z42; have v42:=L.v42; have t47:=L.t47; have a47:=L.a47; have z47:=L.z47; have v47:=L.v47;have u42:=kru L.t42;have e49:∀ args w,(callFunc (ρ.f 49) args).run P w=.ok (.enter (ρ.f 49) args) w:=enters_of L.f49 (by kernel_rfl) rfl;have r:W.heap.size≠blk:=by have:=h.blkLt; omega
 have x:=h.big;have c:SW enc W blk off d (QQ ρ g lb sf sb W):=h.box
 go_enter L.f42,BodyGt.n42_ntmps ρ
 go_wp2
 go_loopw [8,9] (fun t u wr=>∃(f i j:Nat) (dk:Array α),t=.int .i64 i/\u=.int .i64 j/\1<=i/\1<=j/\i<=m/\m+j<=b/\i+j<=f/\dk.size=d.size/\SW enc (QQ ρ g lb sf sb W) blk off dk wr/\xU m f i j dk=xU m (b - a) (m - a) (b - m) d) (fun t u _=>(intOf t).toNat+(intOf u).toNat)
 case atStart=>exact⟨b - a,m - a,b - m,d,by go_num,by go_num,by omega,by omega,by omega,by omega,by omega,rfl,.start (c.holds h.blkLt h.holds rfl),rfl⟩
 case round=>
  obtain⟨f,i,j,dk,rfl,rfl,F,G,C,D,hf,k,q,y⟩:=hrel;have HO:Hid (xU m f i j dk=xU m (b - a) (m - a) (b - m) d):=y;clear y;have c0:=q.cell' (v:=.func (.func g) #[] lb) (o:=0) r (by simp) (by simp);have c1:=q.cell' (v:=.func (.func sf) #[] sb) (o:=1) r (by simp) (by simp);have n:=h.on (c.trans' h.blkLt q k) k;obtain⟨s,rfl⟩:∃ s,f=s+1:=⟨f - 1,by omega⟩;by_cases p:i=j
  ·subst p
   have l:=Any.swapRange_func L n (m - i) m i (by omega) (by omega);rw[show(((m - i:Nat):Int))=(m:Int) - i by omega]at l
   go_wp2_with (go_at_fn (ρ.f 49); refine l.mono ?_; rintro e z ⟨rfl,h1⟩)
   go_end0
   refine⟨rfl,?_⟩;rw[← HO.out,My];exact c.trans' h.blkLt (q.trans' (c.lt h.blkLt) h1 (xX _ _ _ _ _)) (by rw[xX]; exact k)
  by_cases hgt:j<i
  ·have l:=Any.swapRange_func L n (m - i) m j (by omega) (by omega)
   rw[show(((m - i:Nat):Int))=(m:Int) - i by omega]at l
   go_wp2_with (go_at_fn (ρ.f 49); refine l.mono ?_; rintro e z ⟨rfl,h1⟩)
   go_roundw
   case rel=>
    refine⟨s,i - j,j,gL (m - i) m j 0 dk,by congr 1<;>omega,rfl,by omega,by omega,by omega,by omega,by omega,by rw[xX]; exact k,q.trans' (c.lt h.blkLt) h1 (xX _ _ _ _ _),?_⟩;rw[← HO.out];conv=>rhs; unfold xU;rw[if_neg p,if_pos hgt]
   case measure=>simp[intOf]; omega
  ·have l:=Any.swapRange_func L n (m - i) (m+j - i) i (by omega) (by omega)
   rw[show(((m - i:Nat):Int))=(m:Int) - i by omega,show(((m+j - i:Nat):Int))=(m:Int)+j - i by omega]at l
   go_wp2_with (go_at_fn (ρ.f 49); refine l.mono ?_; rintro e z ⟨rfl,h1⟩)
   go_roundw
   case rel=>
    refine⟨s,i,j - i,gL (m - i) (m+j - i) i 0 dk,rfl,by congr 1<;>omega,by omega,by omega,by omega,by omega,by omega,by rw[xX]; exact k,q.trans' (c.lt h.blkLt) h1 (xX _ _ _ _ _),?_⟩;rw[← HO.out];conv=>rhs; unfold xU;rw[if_neg p,if_neg hgt]
   case measure=>simp[intOf]; omega
end Go.Proofs
end
section
namespace Go.Proofs
open Go.Shelf Go.RowKit Go.Lib Go.Sort
def bsP (p:Nat->Bool):Nat->Nat->Nat->Nat
 | 0,i,_=>i
 | f+1,i,j=>if i<j then(if p ((i+j) / 2)=true then bsP p f ((i+j) / 2+1) j else bsP p f i ((i+j) / 2))else i
theorem Fp (p:Nat->Bool) (f i j:Nat) (h:¬ i<j):bsP p f i j=i:=by
 cases f with
 | zero=>rfl
 | succ f=>unfold bsP; rw[if_neg h]
theorem Px (p:Nat->Bool) (f i j:Nat) (h:i<j) (hp:p ((i+j) / 2)=true):bsP p (f+1) i j=bsP p f ((i+j) / 2+1) j:=by
 conv=>lhs; unfold bsP;rw[if_pos h,if_pos hp]
theorem Pw (p:Nat->Bool) (f i j:Nat) (h:i<j) (hp:p ((i+j) / 2)=false):bsP p (f+1) i j=bsP p f i ((i+j) / 2):=by
 conv=>lhs; unfold bsP;rw[if_pos h,if_neg (by rw[hp]; exact Bool.false_ne_true)]
section
variable {α:Type} [Inhabited α]
def upP:Nat->Nat->Array α->Array α
 | 0,_,d=>d
 | c+1,k,d=>upP c (k+1) (swp d k (k+1))
def dnP:Nat->Nat->Array α->Array α
 | 0,_,d=>d
 | c+1,k,d=>dnP c (k - 1) (swp d k (k - 1))
theorem Pl:∀(c k:Nat) (d:Array α),(upP c k d).size=d.size
 | 0,_,_=>rfl
 | c+1,k,d=>by unfold upP; rw[Pl c,size_swp]
theorem Nc:∀(c k:Nat) (d:Array α),(dnP c k d).size=d.size
 | 0,_,_=>rfl
 | c+1,k,d=>by unfold dnP; rw[Nc c,size_swp]
def zW (lt:α->α->Bool) (a m b:Nat) (d:Array α):Nat:=
 bsP (fun c=>!lt d[(a+b) / 2+m - 1 - c]! d[c]!) b (if(a+b) / 2<m then(a+b) / 2+m - b else a) (if(a+b) / 2<m then(a+b) / 2 else m)
def bm (m s e:Nat) (d:Array α):Array α:=if s<m/\m<e then xU m (e - s) (m - s) (e - m) d else d
def nF (lt:α->α->Bool):Nat->Nat->Nat->Nat->Array α->Array α
 | 0,_,_,_,d=>d
 | f+1,a,m,b,d=>
  if m - a=1 then upP (bsP (fun h=>lt d[h]! d[a]!) b m b - 1 - a) a d
  else if b - m=1 then dnP (m - bsP (fun h=>!lt d[m]! d[h]!) b a m) m d
  else
   let s:=zW lt a m b d
   let e:=(a+b) / 2+m - s
   let d1:=bm m s e d
   let d2:=if a<s/\s<(a+b) / 2 then nF lt f a s ((a+b) / 2) d1 else d1
   if(a+b) / 2<e/\e<b then nF lt f ((a+b) / 2) e b d2 else d2
theorem Zb (m s e:Nat) (d:Array α):(bm m s e d).size=d.size:=by
 unfold bm;split
 ·exact zU _ _ _ _ _
 rfl
theorem zi (lt:α->α->Bool):∀(f a m b:Nat) (d:Array α),(nF lt f a m b d).size=d.size
 | 0,_,_,_,_=>rfl
 | f+1,a,m,b,d=>by
  unfold nF;split
  ·exact Pl _ _ _
  split
  ·exact Nc _ _ _
  simp only;split
  ·rw[zi lt f]
   split
   ·rw[zi lt f,Zb]
   exact Zb _ _ _ _
  split
  ·rw[zi lt f,Zb]
  exact Zb _ _ _ _
end
end Go.Proofs
end
section
namespace Go.Proofs
open Go.Shelf Go.RowKit Go.Lib Go.Sort
variable {P:Program} {ρ:Ren} {α:Type} [Inhabited α] {enc:α->Value} {lt:α->α->Bool} {g:Nat} {lb:Array Value} {sf:Nat} {sb:Array Value} {blk off:Nat}
set_option maxHeartbeats 4000000 in
set_option maxRecDepth 100000 in
theorem Any.symMerge_c1 (L:LaysGt.n15 P ρ) (F:Nat) {d:Array α} {W:World} (h:SSt P enc lt g lb sf sb blk off d W) (a m b:Nat) (Y:b - a<=F+1) (Q:a<m) (R:m<b) (Z:b<=d.size) (h1:m - a=1) :
  Calls P (ρ.f 30) #[lsD g lb sf sb,.int .i64 a,.int .i64 m,.int .i64 b] W fun e w'=>e=.returned (.tuple #[])/\SW enc W blk off (nF lt (F+1) a m b d) w':=by
 have mixed:=L.mixed; have t0:=L.t0; have a0:=L.a0; have z0:=L.z0; have v0:=L.v0; have t3:=L.t3; have a3:=L.a3; have z3:=L.z3; have v3:=L.v3; have t4:=L.t4; have a4:=L.a4; have z4:=L.z4; have v4:=L.v4; have t26:=L.t26; have a26:=L.a26; have z26:=L.z26; have v26:=L.v26; have t38:=L.t38; have a38:=L.a38; have z38:=L.z38; have v38:=L.v38; have t42:=L.t42; have a42:=L.a42; have z42:=L.z42; have v42:=L.v42; have t47:=L.t47; have a47:=L.a47; have z47:=L.z47; have v47:=L.v47;have u42:=kru L.t42;have e42:∀ args w,(callFunc (ρ.f 42) args).run P w=.ok (.enter (ρ.f 42) args) w:=enters_of L.f42 (by kernel_rfl) rfl;have e30:∀ args w,(callFunc (ρ.f 30) args).run P w=.ok (.enter (ρ.f 30) args) w:=enters_of L.f30 (by kernel_rfl) rfl;have eg:=h.eg;have p:W.heap.size≠blk:=by have:=h.blkLt; omega
 have K:=h.big;have l:SW enc W blk off d (QQ ρ g lb sf sb W):=h.box
 go_enter L.f30,BodyGt.n30_ntmps ρ
 have y:(m:Int) - a=1:=by omega
 go_wp2
 have H1:Hid _:=y;clear y
 go_loopw [8,9] (fun C D wr=>∃(f i j:Nat),C=.int .i64 i/\D=.int .i64 j/\m<=i/\i<=j/\j<=b/\j - i<=f/\SW enc (QQ ρ g lb sf sb W) blk off d wr/\bsP (fun h=>lt d[h]! d[a]!) f i j=bsP (fun h=>lt d[h]! d[a]!) b m b) (fun C D _=>(intOf D).toNat - (intOf C).toNat)
 case atStart=>exact⟨b,m,b,by go_num,by go_num,by omega,by omega,by omega,by omega,.start (l.holds h.blkLt h.holds rfl),rfl⟩
 case round=>
  obtain⟨f,i,j,rfl,rfl,S,T,U,hf,x,M⟩:=hrel;have HO:Hid (bsP (fun h=>lt d[h]! d[a]!) f i j=bsP (fun h=>lt d[h]! d[a]!) b m b):=M
  clear M;have c0:=x.cell' (v:=.func (.func g) #[] lb) (o:=0) p (by simp) (by simp);have c1:=x.cell' (v:=.func (.func sf) #[] sb) (o:=1) p (by simp) (by simp);have E:=h.on (l.trans' h.blkLt x rfl) rfl;by_cases u:i<j
  ·obtain⟨B,rfl⟩:∃ B,f=B+1:=⟨f - 1,by omega⟩
   have z:=E.lessAt ((i+j) / 2) (a) (by omega) (by omega);rw[show((((i+j) / 2:Nat)):Int)=((i:Int)+j) / 2 by omega]at z;cases r:lt d[(i+j) / 2]! d[a]! with
   | true=>
    rw[r]at z
    go_wp2_with (go_at_fn g; refine z.mono ?_; rintro e w' ⟨rfl,q,rfl⟩)
    go_roundw
    case rel=>
     skip
     exact⟨B,(i+j) / 2+1,j,by congr 1<;>omega,rfl,by omega,by omega,by omega,by omega,x.drewN q,by rw[← HO.out,Px _ _ _ _ u (by simp[r])]⟩
    case measure=>simp[intOf]; omega
   | false=>
    rw[r]at z
    go_wp2_with (go_at_fn g; refine z.mono ?_; rintro e w' ⟨rfl,q,rfl⟩)
    go_roundw
    case rel=>
     skip
     exact⟨B,i,(i+j) / 2,rfl,by congr 1<;>omega,by omega,by omega,by omega,by omega,x.drewN q,by rw[← HO.out,Pw _ _ _ _ u (by simp[r])]⟩
    case measure=>simp[intOf]; omega
  ·have G:=HO.out
   rw[Fp _ _ _ _ u]at G;have HI:Hid _:=G;clear HO G
   go_wp2
   go_loopw [11] (fun H w2=>∃(c k:Nat) (dk:Array α),H=.int .i64 k/\a<=k/\k+c<=i - 1/\i - 1<=k+c/\dk.size=d.size/\SW enc (QQ ρ g lb sf sb W) blk off dk w2/\upP c k dk=upP (i - 1 - a) a d) (fun H _=>i - (intOf H).toNat)
   case atStart=>exact⟨i - 1 - a,a,d,by go_num,by omega,by omega,by omega,rfl,x,rfl⟩
   case round=>
    obtain⟨c,k,dk,rfl,V,X,N,s,n,A⟩:=hrel;have HO2:Hid (upP c k dk=upP (i - 1 - a) a d):=A;clear A;have c0:=n.cell' (v:=.func (.func g) #[] lb) (o:=0) p (by simp) (by simp);have c1:=n.cell' (v:=.func (.func sf) #[] sb) (o:=1) p (by simp) (by simp);have t:=h.on (l.trans' h.blkLt n s) s;by_cases hk:k<i - 1
    ·obtain⟨I,rfl⟩:∃ I,c=I+1:=⟨c - 1,by omega⟩
     have J:(k:Int)<(i:Int) - 1:=by omega
     go_wp2
     have O:=t.swap _ dk t.holds rfl k (k+1) (by omega) (by omega);rw[show(((k+1:Nat):Int))=(k:Int)+1 by omega]at O;rw[O,Oper.upon_value]
     go_wp2
     go_roundw
     case rel=>
      refine⟨I,k+1,swp dk k (k+1),by congr 1<;>omega,by omega,by omega,by omega,by rw[size_swp]; exact s,n.swap (l.lt h.blkLt) k (k+1) (by omega) (by omega),?_⟩;rw[← HO2.out]; rfl
     case measure=>simp[intOf]; omega
    ·have J:¬ (k:Int)<(i:Int) - 1:=by omega
     go_wp2
     (try simp only[Exit.inBlock,Exit.then]); refine bodyPost_ret (results_none rfl _ _ _) rfl ?_
     refine⟨rfl,?_⟩;have:c=0:=by omega
     subst this;have e:=HO2.out;unfold nF;rw[if_pos h1,← HI.out,← e];exact l.trans' h.blkLt n s
end Go.Proofs
end
section
namespace Go.Proofs
open Go.Shelf Go.RowKit Go.Lib Go.Sort
variable {P:Program} {ρ:Ren} {α:Type} [Inhabited α] {enc:α->Value} {lt:α->α->Bool} {g:Nat} {lb:Array Value} {sf:Nat} {sb:Array Value} {blk off:Nat}
set_option maxHeartbeats 4000000 in
set_option maxRecDepth 100000 in
theorem Any.symMerge_c2 (L:LaysGt.n15 P ρ) (F:Nat) {d:Array α} {W:World} (h:SSt P enc lt g lb sf sb blk off d W) (a m b:Nat) (Z:b - a<=F+1) (Q:a<m) (R:m<b) (hb:b<=d.size) (h1:¬ m - a=1) (h2:b - m=1) :
  Calls P (ρ.f 30) #[lsD g lb sf sb,.int .i64 a,.int .i64 m,.int .i64 b] W fun e w'=>e=.returned (.tuple #[])/\SW enc W blk off (nF lt (F+1) a m b d) w':=by
 have mixed:=L.mixed; have t0:=L.t0; have a0:=L.a0; have z0:=L.z0; have v0:=L.v0; have t3:=L.t3; have a3:=L.a3; have z3:=L.z3; have v3:=L.v3; have t4:=L.t4; have a4:=L.a4; have z4:=L.z4; have v4:=L.v4; have t26:=L.t26; have a26:=L.a26; have z26:=L.z26; have v26:=L.v26; have t38:=L.t38; have a38:=L.a38; have z38:=L.z38; have v38:=L.v38; have t42:=L.t42; have a42:=L.a42; have z42:=L.z42; have v42:=L.v42; have t47:=L.t47; have a47:=L.a47; have z47:=L.z47; have v47:=L.v47;have u42:=kru L.t42;have e42:∀ args w,(callFunc (ρ.f 42) args).run P w=.ok (.enter (ρ.f 42) args) w:=enters_of L.f42 (by kernel_rfl) rfl;have e30:∀ args w,(callFunc (ρ.f 30) args).run P w=.ok (.enter (ρ.f 30) args) w:=enters_of L.f30 (by kernel_rfl) rfl;have eg:=h.eg;have p:W.heap.size≠blk:=by have:=h.blkLt; omega
 have K:=h.big;have l:SW enc W blk off d (QQ ρ g lb sf sb W):=h.box
 go_enter L.f30,BodyGt.n30_ntmps ρ
 have S:¬ (m:Int) - a=1:=by omega
 have z:(b:Int) - m=1:=by omega
 go_wp2
 have u:((m:Int) - a==1)=false:=by simp; omega
 have H2:Hid _:=z;clear z
 go_loopw [12,13] (fun D E wr=>∃(f i j:Nat),D=.int .i64 i/\E=.int .i64 j/\a<=i/\i<=j/\j<=m/\j - i<=f/\SW enc (QQ ρ g lb sf sb W) blk off d wr/\bsP (fun h=>!lt d[m]! d[h]!) f i j=bsP (fun h=>!lt d[m]! d[h]!) b a m) (fun D E _=>(intOf E).toNat - (intOf D).toNat)
 case atStart=>exact⟨b,a,m,by go_num,by go_num,by omega,by omega,by omega,by omega,.start (l.holds h.blkLt h.holds rfl),rfl⟩
 case round=>
  obtain⟨f,i,j,rfl,rfl,T,U,V,hf,y,M⟩:=hrel;have HO:Hid (bsP (fun h=>!lt d[m]! d[h]!) f i j=bsP (fun h=>!lt d[m]! d[h]!) b a m):=M;clear M;have c0:=y.cell' (v:=.func (.func g) #[] lb) (o:=0) p (by simp) (by simp);have c1:=y.cell' (v:=.func (.func sf) #[] sb) (o:=1) p (by simp) (by simp);have G:=h.on (l.trans' h.blkLt y rfl) rfl;by_cases x:i<j
  ·obtain⟨C,rfl⟩:∃ C,f=C+1:=⟨f - 1,by omega⟩
   have A:=G.lessAt (m) ((i+j) / 2) (by omega) (by omega);rw[show((((i+j) / 2:Nat)):Int)=((i:Int)+j) / 2 by omega]at A;cases r:lt d[m]! d[(i+j) / 2]! with
   | false=>
    rw[r]at A
    go_wp2_with (go_at_fn g; refine A.mono ?_; rintro e w' ⟨rfl,q,rfl⟩)
    go_roundw
    case rel=>
     (repeat apply Exists.intro)
     exact⟨⟨C,(i+j) / 2+1,j,by congr 1<;>omega,rfl,by omega,by omega,by omega,by omega,y.drewN q,by rw[← HO.out,Px _ _ _ _ x (by simp[r])]⟩,by(rw[u])<;>rfl⟩
    case measure=>simp[intOf]; omega
   | true=>
    rw[r]at A
    go_wp2_with (go_at_fn g; refine A.mono ?_; rintro e w' ⟨rfl,q,rfl⟩)
    go_roundw
    case rel=>
     (repeat apply Exists.intro)
     exact⟨⟨C,i,(i+j) / 2,rfl,by congr 1<;>omega,by omega,by omega,by omega,by omega,y.drewN q,by rw[← HO.out,Pw _ _ _ _ x (by simp[r])]⟩,by(rw[u])<;>rfl⟩
    case measure=>simp[intOf]; omega
  ·have H:=HO.out
   rw[Fp _ _ _ _ x]at H;have HI:Hid _:=H;clear HO H
   go_wp2
   go_loopw [15] (fun I w2=>∃(c k:Nat) (dk:Array α),I=.int .i64 k/\k<=m/\k<=i+c/\i+c<=k/\dk.size=d.size/\SW enc (QQ ρ g lb sf sb W) blk off dk w2/\dnP c k dk=dnP (m - i) m d) (fun I _=>(intOf I).toNat)
   case atStart=>exact⟨m - i,m,d,by go_num,by omega,by omega,by omega,rfl,y,rfl⟩
   case round=>
    obtain⟨c,k,dk,rfl,X,Y,N,s,n,B⟩:=hrel;have HO2:Hid (dnP c k dk=dnP (m - i) m d):=B;clear B;have c0:=n.cell' (v:=.func (.func g) #[] lb) (o:=0) p (by simp) (by simp);have c1:=n.cell' (v:=.func (.func sf) #[] sb) (o:=1) p (by simp) (by simp);have t:=h.on (l.trans' h.blkLt n s) s;by_cases hk:i<k
    ·obtain⟨J,rfl⟩:∃ J,c=J+1:=⟨c - 1,by omega⟩
     go_wp2
     have O:=t.swap _ dk t.holds rfl k (k - 1) (by omega) (by omega);rw[show(((k - 1:Nat):Int))=(k:Int) - 1 by omega]at O;rw[O,Oper.upon_value]
     go_wp2
     go_roundw
     case rel=>
      (repeat apply Exists.intro)
      exact⟨⟨J,k - 1,swp dk k (k - 1),by congr 1<;>omega,by omega,by omega,by omega,by rw[size_swp]; exact s,n.swap (l.lt h.blkLt) k (k - 1) (by omega) (by omega),by rw[← HO2.out]; rfl⟩,by(rw[u,show(((k - 1:Nat)):Int)=(k:Int) - 1 by omega])<;>rfl⟩
     case measure=>simp[intOf]; omega
    ·go_wp2
     (try simp only[Exit.inBlock,Exit.then]); refine bodyPost_ret (results_none rfl _ _ _) rfl ?_
     refine⟨rfl,?_⟩;have:c=0:=by omega
     subst this;have e:=HO2.out;unfold nF;rw[if_neg h1,if_pos h2,← HI.out,← e];exact l.trans' h.blkLt n s
end Go.Proofs
end
section
namespace Go.Proofs
open Go.Shelf Go.RowKit Go.Lib Go.Sort
variable {P:Program} {ρ:Ren} {α:Type} [Inhabited α] {enc:α->Value} {lt:α->α->Bool} {g:Nat} {lb:Array Value} {sf:Nat} {sb:Array Value} {blk off:Nat}
set_option maxHeartbeats 4000000 in
set_option maxRecDepth 100000 in
theorem Any.symMerge_c3 (L:LaysGt.n15 P ρ) (F:Nat) {d:Array α} {W:World} (h:SSt P enc lt g lb sf sb blk off d W) (a m b:Nat) (hF:b - a<=F+1) (ham:a<m) (hmb:m<b) (hb:b<=d.size) (h1:¬ m - a=1) (h2:¬ b - m=1) (hm:(a+b) / 2<m) (z:∀{d:Array α} {W:World},SSt P enc lt g lb sf sb blk off d W->∀ a m b:Nat,b - a<=F->a<m->m<b->b<=d.size->Calls P (ρ.f 30) #[lsD g lb sf sb,.int .i64 a,.int .i64 m,.int .i64 b] W fun e w'=>e=.returned (.tuple #[])/\SW enc W blk off (nF lt F a m b d) w') :
  Calls P (ρ.f 30) #[lsD g lb sf sb,.int .i64 a,.int .i64 m,.int .i64 b] W fun e w'=>e=.returned (.tuple #[])/\SW enc W blk off (nF lt (F+1) a m b d) w':=by
 have mixed:=L.mixed; have t0:=L.t0; have a0:=L.a0; have z0:=L.z0; have v0:=L.v0; have t3:=L.t3; have a3:=L.a3; have z3:=L.z3; have v3:=L.v3; have t4:=L.t4; have a4:=L.a4; have z4:=L.z4; have v4:=L.v4; have t26:=L.t26; have a26:=L.a26; have z26:=L.z26; have v26:=L.v26; have t38:=L.t38; have a38:=L.a38; have z38:=L.z38; have v38:=L.v38; have t42:=L.t42; have a42:=L.a42; have z42:=L.z42; have v42:=L.v42; have t47:=L.t47; have a47:=L.a47; have z47:=L.z47; have v47:=L.v47;have u42:=kru L.t42;have e42:∀ args w,(callFunc (ρ.f 42) args).run P w=.ok (.enter (ρ.f 42) args) w:=enters_of L.f42 (by kernel_rfl) rfl;have e30:∀ args w,(callFunc (ρ.f 30) args).run P w=.ok (.enter (ρ.f 30) args) w:=enters_of L.f30 (by kernel_rfl) rfl;have eg:=h.eg;have n:W.heap.size≠blk:=by have:=h.blkLt; omega
 have hbig:=h.big;have l:SW enc W blk off d (QQ ρ g lb sf sb W):=h.box
 go_enter L.f30,BodyGt.n30_ntmps ρ
 have X:¬ (m:Int) - a=1:=by omega
 have Y:¬ (b:Int) - m=1:=by omega
 have Z:((m:Int) - a==1)=false:=by simp; omega
 have hb2:((b:Int) - m==1)=false:=by simp; omega
 have hm':((a:Int)+b) / 2<m:=by omega
 go_wp2
 have H1:Hid _:=X;have H2:Hid _:=Y;have HM:Hid _:=hm';clear X Y hm'
 go_loopw [18,19] (fun vi vj wr=>∃(f i j:Nat),vi=.int .i64 i/\vj=.int .i64 j/\(a+b) / 2+m - b<=i/\i<=j/\j<=(a+b) / 2/\j - i<=f/\SW enc (QQ ρ g lb sf sb W) blk off d wr/\bsP (fun c=>!lt d[(a+b) / 2+m - 1 - c]! d[c]!) f i j=bsP (fun c=>!lt d[(a+b) / 2+m - 1 - c]! d[c]!) b ((a+b) / 2+m - b) ((a+b) / 2)) (fun vi vj _=>(intOf vj).toNat - (intOf vi).toNat)
 case atStart=>exact⟨b,(a+b) / 2+m - b,(a+b) / 2,by congr 1<;>omega,by congr 1<;>omega,by omega,by omega,by omega,by omega,.start (l.holds h.blkLt h.holds rfl),rfl⟩
 case round=>
  obtain⟨f,i,j,rfl,rfl,hmi,hij,hjb,hf,Q,hO⟩:=hrel;have HO:Hid (bsP (fun c=>!lt d[(a+b) / 2+m - 1 - c]! d[c]!) f i j=bsP (fun c=>!lt d[(a+b) / 2+m - 1 - c]! d[c]!) b ((a+b) / 2+m - b) ((a+b) / 2)):=hO;clear hO;have c0:=Q.cell' (v:=.func (.func g) #[] lb) (o:=0) n (by simp) (by simp);have c1:=Q.cell' (v:=.func (.func sf) #[] sb) (o:=1) n (by simp) (by simp);have J:=h.on (l.trans' h.blkLt Q rfl) rfl;by_cases K:i<j
  ·obtain⟨U,rfl⟩:∃ U,f=U+1:=⟨f - 1,by omega⟩
   have hl:=J.lessAt ((a+b) / 2+m - 1 - (i+j) / 2) ((i+j) / 2) (by omega) (by omega);rw[show((((a+b) / 2+m - 1 - (i+j) / 2:Nat)):Int)=((a:Int)+b) / 2+m - 1 - ((i:Int)+j) / 2 by omega,show((((i+j) / 2:Nat)):Int)=((i:Int)+j) / 2 by omega]at hl;cases I:lt d[(a+b) / 2+m - 1 - (i+j) / 2]! d[(i+j) / 2]! with
   | false=>
    rw[I]at hl
    go_wp2_with (go_at_fn g; refine hl.mono ?_; rintro e w' ⟨rfl,q,rfl⟩)
    go_roundw
    case rel=>
     first|exact⟨U,(i+j) / 2+1,j,by congr 1<;>omega,rfl,by omega,by omega,by omega,by omega,Q.drewN q,by rw[← HO.out,Px _ _ _ _ K (by simp[I])]⟩|((repeat apply Exists.intro); exact⟨⟨U,(i+j) / 2+1,j,by congr 1<;>omega,rfl,by omega,by omega,by omega,by omega,Q.drewN q,by rw[← HO.out,Px _ _ _ _ K (by simp[I])]⟩,by(rw[Z,hb2])<;>rfl⟩)|trace_state
    case measure=>simp[intOf]; omega
   | true=>
    rw[I]at hl
    go_wp2_with (go_at_fn g; refine hl.mono ?_; rintro e w' ⟨rfl,q,rfl⟩)
    go_roundw
    case rel=>
     first|exact⟨U,i,(i+j) / 2,rfl,by congr 1<;>omega,by omega,by omega,by omega,by omega,Q.drewN q,by rw[← HO.out,Pw _ _ _ _ K (by simp[I])]⟩|((repeat apply Exists.intro); exact⟨⟨U,i,(i+j) / 2,rfl,by congr 1<;>omega,by omega,by omega,by omega,by omega,Q.drewN q,by rw[← HO.out,Pw _ _ _ _ K (by simp[I])]⟩,by(rw[Z,hb2])<;>rfl⟩)|trace_state
    case measure=>simp[intOf]; omega
  ·have hI:=HO.out
   rw[Fp _ _ _ _ K]at hI;have HI:Hid _:=hI;clear HO hI;have hec:((a:Int)+b) / 2+m - i=((((a+b) / 2+m - i):Nat):Int):=by omega
   have R:((a:Int)+b) / 2=((((a+b) / 2):Nat):Int):=by omega
   have HMID:Hid _:=R;clear R;have u:=Q;by_cases hr:i<m/\m<((a+b) / 2+m - i)
   ·obtain⟨A,B⟩:=hr
    by_cases S:a<i/\i<((a+b) / 2)
    ·obtain⟨M,N⟩:=S
     by_cases O:((a+b) / 2)<((a+b) / 2+m - i)/\((a+b) / 2+m - i)<b
     ·obtain⟨D,E⟩:=O
      have r:=Any.rotate_func L J i m ((a+b) / 2+m - i) A B (by omega)
      go_wp2_with (go_at_fn (ρ.f 42); refine r.mono ?_; rintro e1 V ⟨rfl,t⟩; have k:=u.trans' (l.lt h.blkLt) t (zU _ _ _ _ _); have c1a:=k.cell' (v:=.func (.func g) #[] lb) (o:=0) n (by simp) (by simp); have c1b:=k.cell' (v:=.func (.func sf) #[] sb) (o:=1) n (by simp) (by simp))
      all_goals
       have z1:(xU m (((a+b) / 2+m - i) - i) (m - i) (((a+b) / 2+m - i) - m) d).size=d.size:=zU _ _ _ _ _;have x:=h.on (l.trans' h.blkLt k z1) z1;have y:=z x (a) (i) (((a+b) / 2)) (by omega) (by omega) (by omega) (by have:=z1; omega);rw[← HMID.out]at y
       go_wp2_with (go_at_fn (ρ.f 30); refine y.mono ?_; rintro e2 w2 ⟨rfl,G⟩; have s:=k.trans' (l.lt h.blkLt) G (zi _ _ _ _ _ _); have c2a:=s.cell' (v:=.func (.func g) #[] lb) (o:=0) n (by simp) (by simp); have c2b:=s.cell' (v:=.func (.func sf) #[] sb) (o:=1) n (by simp) (by simp))
       all_goals
        have z2:(nF lt F a i ((a+b) / 2) (xU m (((a+b) / 2+m - i) - i) (m - i) (((a+b) / 2+m - i) - m) d)).size=d.size:=(zi _ _ _ _ _ _).trans z1;have hst3:=h.on (l.trans' h.blkLt s z2) z2;have hc3:=z hst3 (((a+b) / 2)) (((a+b) / 2+m - i)) (b) (by omega) (by omega) (by omega) (by have:=z2; omega);rw[← HMID.out]at hc3
        go_wp2_with (go_at_fn (ρ.f 30); refine hc3.mono ?_; rintro e3 w3 ⟨rfl,hw3⟩; have T:=s.trans' (l.lt h.blkLt) hw3 (zi _ _ _ _ _ _); have c3a:=T.cell' (v:=.func (.func g) #[] lb) (o:=0) n (by simp) (by simp); have c3b:=T.cell' (v:=.func (.func sf) #[] sb) (o:=1) n (by simp) (by simp))
        all_goals
         have z3:(nF lt F ((a+b) / 2) ((a+b) / 2+m - i) b (nF lt F a i ((a+b) / 2) (xU m (((a+b) / 2+m - i) - i) (m - i) (((a+b) / 2+m - i) - m) d))).size=d.size:=(zi _ _ _ _ _ _).trans z2
         go_end0
         refine⟨rfl,?_⟩;have p:=l.trans' h.blkLt T z3;have H:zW lt a m b d=i:=by unfold zW; rw[if_pos hm,if_pos hm]; exact HI.out.symm
         unfold nF bm;simp only[if_neg h1,if_neg h2,H];rw[if_pos (And.intro A B),if_pos (And.intro M N),if_pos (And.intro D E)]
         first|done|exact p
     ·skip
      have r:=Any.rotate_func L J i m ((a+b) / 2+m - i) A B (by omega)
      go_wp2_with (go_at_fn (ρ.f 42); refine r.mono ?_; rintro e1 V ⟨rfl,t⟩; have k:=u.trans' (l.lt h.blkLt) t (zU _ _ _ _ _); have c1a:=k.cell' (v:=.func (.func g) #[] lb) (o:=0) n (by simp) (by simp); have c1b:=k.cell' (v:=.func (.func sf) #[] sb) (o:=1) n (by simp) (by simp))
      all_goals
       have z1:(xU m (((a+b) / 2+m - i) - i) (m - i) (((a+b) / 2+m - i) - m) d).size=d.size:=zU _ _ _ _ _;have x:=h.on (l.trans' h.blkLt k z1) z1;have y:=z x (a) (i) (((a+b) / 2)) (by omega) (by omega) (by omega) (by have:=z1; omega);rw[← HMID.out]at y
       go_wp2_with (go_at_fn (ρ.f 30); refine y.mono ?_; rintro e2 w2 ⟨rfl,G⟩; have s:=k.trans' (l.lt h.blkLt) G (zi _ _ _ _ _ _); have c2a:=s.cell' (v:=.func (.func g) #[] lb) (o:=0) n (by simp) (by simp); have c2b:=s.cell' (v:=.func (.func sf) #[] sb) (o:=1) n (by simp) (by simp))
       all_goals
        have z2:(nF lt F a i ((a+b) / 2) (xU m (((a+b) / 2+m - i) - i) (m - i) (((a+b) / 2+m - i) - m) d)).size=d.size:=(zi _ _ _ _ _ _).trans z1
        go_end0
        refine⟨rfl,?_⟩;have p:=l.trans' h.blkLt s z2;have H:zW lt a m b d=i:=by unfold zW; rw[if_pos hm,if_pos hm]; exact HI.out.symm
        unfold nF bm;simp only[if_neg h1,if_neg h2,H];rw[if_pos (And.intro A B),if_pos (And.intro M N),if_neg O]
        first|done|exact p
    ·skip
     by_cases O:((a+b) / 2)<((a+b) / 2+m - i)/\((a+b) / 2+m - i)<b
     ·obtain⟨D,E⟩:=O
      have r:=Any.rotate_func L J i m ((a+b) / 2+m - i) A B (by omega)
      go_wp2_with (go_at_fn (ρ.f 42); refine r.mono ?_; rintro e1 V ⟨rfl,t⟩; have k:=u.trans' (l.lt h.blkLt) t (zU _ _ _ _ _); have c1a:=k.cell' (v:=.func (.func g) #[] lb) (o:=0) n (by simp) (by simp); have c1b:=k.cell' (v:=.func (.func sf) #[] sb) (o:=1) n (by simp) (by simp))
      all_goals
       have z1:(xU m (((a+b) / 2+m - i) - i) (m - i) (((a+b) / 2+m - i) - m) d).size=d.size:=zU _ _ _ _ _;have x:=h.on (l.trans' h.blkLt k z1) z1;have y:=z x (((a+b) / 2)) (((a+b) / 2+m - i)) (b) (by omega) (by omega) (by omega) (by have:=z1; omega);rw[← HMID.out]at y
       go_wp2_with (go_at_fn (ρ.f 30); refine y.mono ?_; rintro e2 w2 ⟨rfl,G⟩; have s:=k.trans' (l.lt h.blkLt) G (zi _ _ _ _ _ _); have c2a:=s.cell' (v:=.func (.func g) #[] lb) (o:=0) n (by simp) (by simp); have c2b:=s.cell' (v:=.func (.func sf) #[] sb) (o:=1) n (by simp) (by simp))
       all_goals
        have z2:(nF lt F ((a+b) / 2) ((a+b) / 2+m - i) b (xU m (((a+b) / 2+m - i) - i) (m - i) (((a+b) / 2+m - i) - m) d)).size=d.size:=(zi _ _ _ _ _ _).trans z1
        go_end0
        refine⟨rfl,?_⟩;have p:=l.trans' h.blkLt s z2;have H:zW lt a m b d=i:=by unfold zW; rw[if_pos hm,if_pos hm]; exact HI.out.symm
        unfold nF bm;simp only[if_neg h1,if_neg h2,H];rw[if_pos (And.intro A B),if_neg S,if_pos (And.intro D E)]
        first|done|exact p
     ·skip
      have r:=Any.rotate_func L J i m ((a+b) / 2+m - i) A B (by omega)
      go_wp2_with (go_at_fn (ρ.f 42); refine r.mono ?_; rintro e1 V ⟨rfl,t⟩; have k:=u.trans' (l.lt h.blkLt) t (zU _ _ _ _ _); have c1a:=k.cell' (v:=.func (.func g) #[] lb) (o:=0) n (by simp) (by simp); have c1b:=k.cell' (v:=.func (.func sf) #[] sb) (o:=1) n (by simp) (by simp))
      all_goals
       have z1:(xU m (((a+b) / 2+m - i) - i) (m - i) (((a+b) / 2+m - i) - m) d).size=d.size:=zU _ _ _ _ _
       go_end0
       refine⟨rfl,?_⟩;have p:=l.trans' h.blkLt k z1;have H:zW lt a m b d=i:=by unfold zW; rw[if_pos hm,if_pos hm]; exact HI.out.symm
       unfold nF bm;simp only[if_neg h1,if_neg h2,H];rw[if_pos (And.intro A B),if_neg S,if_neg O]
       first|done|exact p
   ·skip
    by_cases S:a<i/\i<((a+b) / 2)
    ·obtain⟨M,N⟩:=S
     by_cases O:((a+b) / 2)<((a+b) / 2+m - i)/\((a+b) / 2+m - i)<b
     ·obtain⟨D,E⟩:=O
      have C:=h.on (l.trans' h.blkLt u (rfl:d.size=d.size)) (rfl:d.size=d.size);have r:=z C (a) (i) (((a+b) / 2)) (by omega) (by omega) (by omega) (by have:=(rfl:d.size=d.size); omega);rw[← HMID.out]at r
      go_wp2_with (go_at_fn (ρ.f 30); refine r.mono ?_; rintro e1 V ⟨rfl,t⟩; have k:=u.trans' (l.lt h.blkLt) t (zi _ _ _ _ _ _); have c1a:=k.cell' (v:=.func (.func g) #[] lb) (o:=0) n (by simp) (by simp); have c1b:=k.cell' (v:=.func (.func sf) #[] sb) (o:=1) n (by simp) (by simp))
      all_goals
       have z1:(nF lt F a i ((a+b) / 2) d).size=d.size:=(zi _ _ _ _ _ _).trans (rfl:d.size=d.size);have x:=h.on (l.trans' h.blkLt k z1) z1;have y:=z x (((a+b) / 2)) (((a+b) / 2+m - i)) (b) (by omega) (by omega) (by omega) (by have:=z1; omega);rw[← HMID.out]at y
       go_wp2_with (go_at_fn (ρ.f 30); refine y.mono ?_; rintro e2 w2 ⟨rfl,G⟩; have s:=k.trans' (l.lt h.blkLt) G (zi _ _ _ _ _ _); have c2a:=s.cell' (v:=.func (.func g) #[] lb) (o:=0) n (by simp) (by simp); have c2b:=s.cell' (v:=.func (.func sf) #[] sb) (o:=1) n (by simp) (by simp))
       all_goals
        have z2:(nF lt F ((a+b) / 2) ((a+b) / 2+m - i) b (nF lt F a i ((a+b) / 2) d)).size=d.size:=(zi _ _ _ _ _ _).trans z1
        go_end0
        refine⟨rfl,?_⟩;have p:=l.trans' h.blkLt s z2;have H:zW lt a m b d=i:=by unfold zW; rw[if_pos hm,if_pos hm]; exact HI.out.symm
        unfold nF bm;simp only[if_neg h1,if_neg h2,H];rw[if_neg hr,if_pos (And.intro M N),if_pos (And.intro D E)]
        first|done|exact p
     ·skip
      have C:=h.on (l.trans' h.blkLt u (rfl:d.size=d.size)) (rfl:d.size=d.size);have r:=z C (a) (i) (((a+b) / 2)) (by omega) (by omega) (by omega) (by have:=(rfl:d.size=d.size); omega);rw[← HMID.out]at r
      go_wp2_with (go_at_fn (ρ.f 30); refine r.mono ?_; rintro e1 V ⟨rfl,t⟩; have k:=u.trans' (l.lt h.blkLt) t (zi _ _ _ _ _ _); have c1a:=k.cell' (v:=.func (.func g) #[] lb) (o:=0) n (by simp) (by simp); have c1b:=k.cell' (v:=.func (.func sf) #[] sb) (o:=1) n (by simp) (by simp))
      all_goals
       have z1:(nF lt F a i ((a+b) / 2) d).size=d.size:=(zi _ _ _ _ _ _).trans (rfl:d.size=d.size)
       go_end0
       refine⟨rfl,?_⟩;have p:=l.trans' h.blkLt k z1;have H:zW lt a m b d=i:=by unfold zW; rw[if_pos hm,if_pos hm]; exact HI.out.symm
       unfold nF bm;simp only[if_neg h1,if_neg h2,H];rw[if_neg hr,if_pos (And.intro M N),if_neg O]
       first|done|exact p
    ·skip
     by_cases O:((a+b) / 2)<((a+b) / 2+m - i)/\((a+b) / 2+m - i)<b
     ·obtain⟨D,E⟩:=O
      have C:=h.on (l.trans' h.blkLt u (rfl:d.size=d.size)) (rfl:d.size=d.size);have r:=z C (((a+b) / 2)) (((a+b) / 2+m - i)) (b) (by omega) (by omega) (by omega) (by have:=(rfl:d.size=d.size); omega);rw[← HMID.out]at r
      go_wp2_with (go_at_fn (ρ.f 30); refine r.mono ?_; rintro e1 V ⟨rfl,t⟩; have k:=u.trans' (l.lt h.blkLt) t (zi _ _ _ _ _ _); have c1a:=k.cell' (v:=.func (.func g) #[] lb) (o:=0) n (by simp) (by simp); have c1b:=k.cell' (v:=.func (.func sf) #[] sb) (o:=1) n (by simp) (by simp))
      all_goals
       have z1:(nF lt F ((a+b) / 2) ((a+b) / 2+m - i) b d).size=d.size:=(zi _ _ _ _ _ _).trans (rfl:d.size=d.size)
       go_end0
       refine⟨rfl,?_⟩;have p:=l.trans' h.blkLt k z1;have H:zW lt a m b d=i:=by unfold zW; rw[if_pos hm,if_pos hm]; exact HI.out.symm
       unfold nF bm;simp only[if_neg h1,if_neg h2,H];rw[if_neg hr,if_neg S,if_pos (And.intro D E)]
       first|done|exact p
     ·skip
      go_wp2
      all_goals
       go_end0
       refine⟨rfl,?_⟩;have p:=l.trans' h.blkLt u (rfl:d.size=d.size);have H:zW lt a m b d=i:=by unfold zW; rw[if_pos hm,if_pos hm]; exact HI.out.symm
       unfold nF bm;simp only[if_neg h1,if_neg h2,H];rw[if_neg hr,if_neg S,if_neg O]
       first|done|exact p
end Go.Proofs
end
section
namespace Go.Proofs
open Go.Shelf Go.RowKit Go.Lib Go.Sort
variable {P:Program} {ρ:Ren} {α:Type} [Inhabited α] {enc:α->Value} {lt:α->α->Bool} {g:Nat} {lb:Array Value} {sf:Nat} {sb:Array Value} {blk off:Nat}
set_option maxHeartbeats 4000000 in
set_option maxRecDepth 100000 in
theorem Any.symMerge_c4 (L:LaysGt.n15 P ρ) (F:Nat) {d:Array α} {W:World} (h:SSt P enc lt g lb sf sb blk off d W) (a m b:Nat) (hF:b - a<=F+1) (ham:a<m) (hmb:m<b) (hb:b<=d.size) (h1:¬ m - a=1) (h2:¬ b - m=1) (hm:¬ (a+b) / 2<m) (z:∀{d:Array α} {W:World},SSt P enc lt g lb sf sb blk off d W->∀ a m b:Nat,b - a<=F->a<m->m<b->b<=d.size->Calls P (ρ.f 30) #[lsD g lb sf sb,.int .i64 a,.int .i64 m,.int .i64 b] W fun e w'=>e=.returned (.tuple #[])/\SW enc W blk off (nF lt F a m b d) w') :
  Calls P (ρ.f 30) #[lsD g lb sf sb,.int .i64 a,.int .i64 m,.int .i64 b] W fun e w'=>e=.returned (.tuple #[])/\SW enc W blk off (nF lt (F+1) a m b d) w':=by
 have mixed:=L.mixed; have t0:=L.t0; have a0:=L.a0; have z0:=L.z0; have v0:=L.v0; have t3:=L.t3; have a3:=L.a3; have z3:=L.z3; have v3:=L.v3; have t4:=L.t4; have a4:=L.a4; have z4:=L.z4; have v4:=L.v4; have t26:=L.t26; have a26:=L.a26; have z26:=L.z26; have v26:=L.v26; have t38:=L.t38; have a38:=L.a38; have z38:=L.z38; have v38:=L.v38; have t42:=L.t42; have a42:=L.a42; have z42:=L.z42; have v42:=L.v42; have t47:=L.t47; have a47:=L.a47; have z47:=L.z47; have v47:=L.v47;have u42:=kru L.t42;have e42:∀ args w,(callFunc (ρ.f 42) args).run P w=.ok (.enter (ρ.f 42) args) w:=enters_of L.f42 (by kernel_rfl) rfl;have e30:∀ args w,(callFunc (ρ.f 30) args).run P w=.ok (.enter (ρ.f 30) args) w:=enters_of L.f30 (by kernel_rfl) rfl;have eg:=h.eg;have n:W.heap.size≠blk:=by have:=h.blkLt; omega
 have hbig:=h.big;have l:SW enc W blk off d (QQ ρ g lb sf sb W):=h.box
 go_enter L.f30,BodyGt.n30_ntmps ρ
 have X:¬ (m:Int) - a=1:=by omega
 have Y:¬ (b:Int) - m=1:=by omega
 have Z:((m:Int) - a==1)=false:=by simp; omega
 have hb2:((b:Int) - m==1)=false:=by simp; omega
 have hm':¬ ((a:Int)+b) / 2<m:=by omega
 go_wp2
 have H1:Hid _:=X;have H2:Hid _:=Y;have HM:Hid _:=hm';clear X Y hm'
 go_loopw [18,19] (fun vi vj wr=>∃(f i j:Nat),vi=.int .i64 i/\vj=.int .i64 j/\a<=i/\i<=j/\j<=m/\j - i<=f/\SW enc (QQ ρ g lb sf sb W) blk off d wr/\bsP (fun c=>!lt d[(a+b) / 2+m - 1 - c]! d[c]!) f i j=bsP (fun c=>!lt d[(a+b) / 2+m - 1 - c]! d[c]!) b (a) (m)) (fun vi vj _=>(intOf vj).toNat - (intOf vi).toNat)
 case atStart=>exact⟨b,a,m,by congr 1<;>omega,by congr 1<;>omega,by omega,by omega,by omega,by omega,.start (l.holds h.blkLt h.holds rfl),rfl⟩
 case round=>
  obtain⟨f,i,j,rfl,rfl,hmi,hij,hjb,hf,Q,hO⟩:=hrel;have HO:Hid (bsP (fun c=>!lt d[(a+b) / 2+m - 1 - c]! d[c]!) f i j=bsP (fun c=>!lt d[(a+b) / 2+m - 1 - c]! d[c]!) b (a) (m)):=hO;clear hO;have c0:=Q.cell' (v:=.func (.func g) #[] lb) (o:=0) n (by simp) (by simp);have c1:=Q.cell' (v:=.func (.func sf) #[] sb) (o:=1) n (by simp) (by simp);have J:=h.on (l.trans' h.blkLt Q rfl) rfl;by_cases K:i<j
  ·obtain⟨U,rfl⟩:∃ U,f=U+1:=⟨f - 1,by omega⟩
   have hl:=J.lessAt ((a+b) / 2+m - 1 - (i+j) / 2) ((i+j) / 2) (by omega) (by omega);rw[show((((a+b) / 2+m - 1 - (i+j) / 2:Nat)):Int)=((a:Int)+b) / 2+m - 1 - ((i:Int)+j) / 2 by omega,show((((i+j) / 2:Nat)):Int)=((i:Int)+j) / 2 by omega]at hl;cases I:lt d[(a+b) / 2+m - 1 - (i+j) / 2]! d[(i+j) / 2]! with
   | false=>
    rw[I]at hl
    go_wp2_with (go_at_fn g; refine hl.mono ?_; rintro e w' ⟨rfl,q,rfl⟩)
    go_roundw
    case rel=>
     first|exact⟨U,(i+j) / 2+1,j,by congr 1<;>omega,rfl,by omega,by omega,by omega,by omega,Q.drewN q,by rw[← HO.out,Px _ _ _ _ K (by simp[I])]⟩|((repeat apply Exists.intro); exact⟨⟨U,(i+j) / 2+1,j,by congr 1<;>omega,rfl,by omega,by omega,by omega,by omega,Q.drewN q,by rw[← HO.out,Px _ _ _ _ K (by simp[I])]⟩,by(rw[Z,hb2])<;>rfl⟩)|trace_state
    case measure=>simp[intOf]; omega
   | true=>
    rw[I]at hl
    go_wp2_with (go_at_fn g; refine hl.mono ?_; rintro e w' ⟨rfl,q,rfl⟩)
    go_roundw
    case rel=>
     first|exact⟨U,i,(i+j) / 2,rfl,by congr 1<;>omega,by omega,by omega,by omega,by omega,Q.drewN q,by rw[← HO.out,Pw _ _ _ _ K (by simp[I])]⟩|((repeat apply Exists.intro); exact⟨⟨U,i,(i+j) / 2,rfl,by congr 1<;>omega,by omega,by omega,by omega,by omega,Q.drewN q,by rw[← HO.out,Pw _ _ _ _ K (by simp[I])]⟩,by(rw[Z,hb2])<;>rfl⟩)|trace_state
    case measure=>simp[intOf]; omega
  ·have hI:=HO.out
   rw[Fp _ _ _ _ K]at hI;have HI:Hid _:=hI;clear HO hI;have hec:((a:Int)+b) / 2+m - i=((((a+b) / 2+m - i):Nat):Int):=by omega
   have R:((a:Int)+b) / 2=((((a+b) / 2):Nat):Int):=by omega
   have HMID:Hid _:=R;clear R;have u:=Q;by_cases hr:i<m/\m<((a+b) / 2+m - i)
   ·obtain⟨A,B⟩:=hr
    by_cases S:a<i/\i<((a+b) / 2)
    ·obtain⟨M,N⟩:=S
     by_cases O:((a+b) / 2)<((a+b) / 2+m - i)/\((a+b) / 2+m - i)<b
     ·obtain⟨D,E⟩:=O
      have r:=Any.rotate_func L J i m ((a+b) / 2+m - i) A B (by omega)
      go_wp2_with (go_at_fn (ρ.f 42); refine r.mono ?_; rintro e1 V ⟨rfl,t⟩; have k:=u.trans' (l.lt h.blkLt) t (zU _ _ _ _ _); have c1a:=k.cell' (v:=.func (.func g) #[] lb) (o:=0) n (by simp) (by simp); have c1b:=k.cell' (v:=.func (.func sf) #[] sb) (o:=1) n (by simp) (by simp))
      all_goals
       have z1:(xU m (((a+b) / 2+m - i) - i) (m - i) (((a+b) / 2+m - i) - m) d).size=d.size:=zU _ _ _ _ _;have x:=h.on (l.trans' h.blkLt k z1) z1;have y:=z x (a) (i) (((a+b) / 2)) (by omega) (by omega) (by omega) (by have:=z1; omega);rw[← HMID.out]at y
       go_wp2_with (go_at_fn (ρ.f 30); refine y.mono ?_; rintro e2 w2 ⟨rfl,G⟩; have s:=k.trans' (l.lt h.blkLt) G (zi _ _ _ _ _ _); have c2a:=s.cell' (v:=.func (.func g) #[] lb) (o:=0) n (by simp) (by simp); have c2b:=s.cell' (v:=.func (.func sf) #[] sb) (o:=1) n (by simp) (by simp))
       all_goals
        have z2:(nF lt F a i ((a+b) / 2) (xU m (((a+b) / 2+m - i) - i) (m - i) (((a+b) / 2+m - i) - m) d)).size=d.size:=(zi _ _ _ _ _ _).trans z1;have hst3:=h.on (l.trans' h.blkLt s z2) z2;have hc3:=z hst3 (((a+b) / 2)) (((a+b) / 2+m - i)) (b) (by omega) (by omega) (by omega) (by have:=z2; omega);rw[← HMID.out]at hc3
        go_wp2_with (go_at_fn (ρ.f 30); refine hc3.mono ?_; rintro e3 w3 ⟨rfl,hw3⟩; have T:=s.trans' (l.lt h.blkLt) hw3 (zi _ _ _ _ _ _); have c3a:=T.cell' (v:=.func (.func g) #[] lb) (o:=0) n (by simp) (by simp); have c3b:=T.cell' (v:=.func (.func sf) #[] sb) (o:=1) n (by simp) (by simp))
        all_goals
         have z3:(nF lt F ((a+b) / 2) ((a+b) / 2+m - i) b (nF lt F a i ((a+b) / 2) (xU m (((a+b) / 2+m - i) - i) (m - i) (((a+b) / 2+m - i) - m) d))).size=d.size:=(zi _ _ _ _ _ _).trans z2
         go_end0
         refine⟨rfl,?_⟩;have p:=l.trans' h.blkLt T z3;have H:zW lt a m b d=i:=by unfold zW; rw[if_neg hm,if_neg hm]; exact HI.out.symm
         unfold nF bm;simp only[if_neg h1,if_neg h2,H];rw[if_pos (And.intro A B),if_pos (And.intro M N),if_pos (And.intro D E)]
         first|done|exact p
     ·skip
      have r:=Any.rotate_func L J i m ((a+b) / 2+m - i) A B (by omega)
      go_wp2_with (go_at_fn (ρ.f 42); refine r.mono ?_; rintro e1 V ⟨rfl,t⟩; have k:=u.trans' (l.lt h.blkLt) t (zU _ _ _ _ _); have c1a:=k.cell' (v:=.func (.func g) #[] lb) (o:=0) n (by simp) (by simp); have c1b:=k.cell' (v:=.func (.func sf) #[] sb) (o:=1) n (by simp) (by simp))
      all_goals
       have z1:(xU m (((a+b) / 2+m - i) - i) (m - i) (((a+b) / 2+m - i) - m) d).size=d.size:=zU _ _ _ _ _;have x:=h.on (l.trans' h.blkLt k z1) z1;have y:=z x (a) (i) (((a+b) / 2)) (by omega) (by omega) (by omega) (by have:=z1; omega);rw[← HMID.out]at y
       go_wp2_with (go_at_fn (ρ.f 30); refine y.mono ?_; rintro e2 w2 ⟨rfl,G⟩; have s:=k.trans' (l.lt h.blkLt) G (zi _ _ _ _ _ _); have c2a:=s.cell' (v:=.func (.func g) #[] lb) (o:=0) n (by simp) (by simp); have c2b:=s.cell' (v:=.func (.func sf) #[] sb) (o:=1) n (by simp) (by simp))
       all_goals
        have z2:(nF lt F a i ((a+b) / 2) (xU m (((a+b) / 2+m - i) - i) (m - i) (((a+b) / 2+m - i) - m) d)).size=d.size:=(zi _ _ _ _ _ _).trans z1
        go_end0
        refine⟨rfl,?_⟩;have p:=l.trans' h.blkLt s z2;have H:zW lt a m b d=i:=by unfold zW; rw[if_neg hm,if_neg hm]; exact HI.out.symm
        unfold nF bm;simp only[if_neg h1,if_neg h2,H];rw[if_pos (And.intro A B),if_pos (And.intro M N),if_neg O]
        first|done|exact p
    ·skip
     by_cases O:((a+b) / 2)<((a+b) / 2+m - i)/\((a+b) / 2+m - i)<b
     ·obtain⟨D,E⟩:=O
      have r:=Any.rotate_func L J i m ((a+b) / 2+m - i) A B (by omega)
      go_wp2_with (go_at_fn (ρ.f 42); refine r.mono ?_; rintro e1 V ⟨rfl,t⟩; have k:=u.trans' (l.lt h.blkLt) t (zU _ _ _ _ _); have c1a:=k.cell' (v:=.func (.func g) #[] lb) (o:=0) n (by simp) (by simp); have c1b:=k.cell' (v:=.func (.func sf) #[] sb) (o:=1) n (by simp) (by simp))
      all_goals
       have z1:(xU m (((a+b) / 2+m - i) - i) (m - i) (((a+b) / 2+m - i) - m) d).size=d.size:=zU _ _ _ _ _;have x:=h.on (l.trans' h.blkLt k z1) z1;have y:=z x (((a+b) / 2)) (((a+b) / 2+m - i)) (b) (by omega) (by omega) (by omega) (by have:=z1; omega);rw[← HMID.out]at y
       go_wp2_with (go_at_fn (ρ.f 30); refine y.mono ?_; rintro e2 w2 ⟨rfl,G⟩; have s:=k.trans' (l.lt h.blkLt) G (zi _ _ _ _ _ _); have c2a:=s.cell' (v:=.func (.func g) #[] lb) (o:=0) n (by simp) (by simp); have c2b:=s.cell' (v:=.func (.func sf) #[] sb) (o:=1) n (by simp) (by simp))
       all_goals
        have z2:(nF lt F ((a+b) / 2) ((a+b) / 2+m - i) b (xU m (((a+b) / 2+m - i) - i) (m - i) (((a+b) / 2+m - i) - m) d)).size=d.size:=(zi _ _ _ _ _ _).trans z1
        go_end0
        refine⟨rfl,?_⟩;have p:=l.trans' h.blkLt s z2;have H:zW lt a m b d=i:=by unfold zW; rw[if_neg hm,if_neg hm]; exact HI.out.symm
        unfold nF bm;simp only[if_neg h1,if_neg h2,H];rw[if_pos (And.intro A B),if_neg S,if_pos (And.intro D E)]
        first|done|exact p
     ·skip
      have r:=Any.rotate_func L J i m ((a+b) / 2+m - i) A B (by omega)
      go_wp2_with (go_at_fn (ρ.f 42); refine r.mono ?_; rintro e1 V ⟨rfl,t⟩; have k:=u.trans' (l.lt h.blkLt) t (zU _ _ _ _ _); have c1a:=k.cell' (v:=.func (.func g) #[] lb) (o:=0) n (by simp) (by simp); have c1b:=k.cell' (v:=.func (.func sf) #[] sb) (o:=1) n (by simp) (by simp))
      all_goals
       have z1:(xU m (((a+b) / 2+m - i) - i) (m - i) (((a+b) / 2+m - i) - m) d).size=d.size:=zU _ _ _ _ _
       go_end0
       refine⟨rfl,?_⟩;have p:=l.trans' h.blkLt k z1;have H:zW lt a m b d=i:=by unfold zW; rw[if_neg hm,if_neg hm]; exact HI.out.symm
       unfold nF bm;simp only[if_neg h1,if_neg h2,H];rw[if_pos (And.intro A B),if_neg S,if_neg O]
       first|done|exact p
   ·skip
    by_cases S:a<i/\i<((a+b) / 2)
    ·obtain⟨M,N⟩:=S
     by_cases O:((a+b) / 2)<((a+b) / 2+m - i)/\((a+b) / 2+m - i)<b
     ·obtain⟨D,E⟩:=O
      have C:=h.on (l.trans' h.blkLt u (rfl:d.size=d.size)) (rfl:d.size=d.size);have r:=z C (a) (i) (((a+b) / 2)) (by omega) (by omega) (by omega) (by have:=(rfl:d.size=d.size); omega);rw[← HMID.out]at r
      go_wp2_with (go_at_fn (ρ.f 30); refine r.mono ?_; rintro e1 V ⟨rfl,t⟩; have k:=u.trans' (l.lt h.blkLt) t (zi _ _ _ _ _ _); have c1a:=k.cell' (v:=.func (.func g) #[] lb) (o:=0) n (by simp) (by simp); have c1b:=k.cell' (v:=.func (.func sf) #[] sb) (o:=1) n (by simp) (by simp))
      all_goals
       have z1:(nF lt F a i ((a+b) / 2) d).size=d.size:=(zi _ _ _ _ _ _).trans (rfl:d.size=d.size);have x:=h.on (l.trans' h.blkLt k z1) z1;have y:=z x (((a+b) / 2)) (((a+b) / 2+m - i)) (b) (by omega) (by omega) (by omega) (by have:=z1; omega);rw[← HMID.out]at y
       go_wp2_with (go_at_fn (ρ.f 30); refine y.mono ?_; rintro e2 w2 ⟨rfl,G⟩; have s:=k.trans' (l.lt h.blkLt) G (zi _ _ _ _ _ _); have c2a:=s.cell' (v:=.func (.func g) #[] lb) (o:=0) n (by simp) (by simp); have c2b:=s.cell' (v:=.func (.func sf) #[] sb) (o:=1) n (by simp) (by simp))
       all_goals
        have z2:(nF lt F ((a+b) / 2) ((a+b) / 2+m - i) b (nF lt F a i ((a+b) / 2) d)).size=d.size:=(zi _ _ _ _ _ _).trans z1
        go_end0
        refine⟨rfl,?_⟩;have p:=l.trans' h.blkLt s z2;have H:zW lt a m b d=i:=by unfold zW; rw[if_neg hm,if_neg hm]; exact HI.out.symm
        unfold nF bm;simp only[if_neg h1,if_neg h2,H];rw[if_neg hr,if_pos (And.intro M N),if_pos (And.intro D E)]
        first|done|exact p
     ·skip
      have C:=h.on (l.trans' h.blkLt u (rfl:d.size=d.size)) (rfl:d.size=d.size);have r:=z C (a) (i) (((a+b) / 2)) (by omega) (by omega) (by omega) (by have:=(rfl:d.size=d.size); omega);rw[← HMID.out]at r
      go_wp2_with (go_at_fn (ρ.f 30); refine r.mono ?_; rintro e1 V ⟨rfl,t⟩; have k:=u.trans' (l.lt h.blkLt) t (zi _ _ _ _ _ _); have c1a:=k.cell' (v:=.func (.func g) #[] lb) (o:=0) n (by simp) (by simp); have c1b:=k.cell' (v:=.func (.func sf) #[] sb) (o:=1) n (by simp) (by simp))
      all_goals
       have z1:(nF lt F a i ((a+b) / 2) d).size=d.size:=(zi _ _ _ _ _ _).trans (rfl:d.size=d.size)
       go_end0
       refine⟨rfl,?_⟩;have p:=l.trans' h.blkLt k z1;have H:zW lt a m b d=i:=by unfold zW; rw[if_neg hm,if_neg hm]; exact HI.out.symm
       unfold nF bm;simp only[if_neg h1,if_neg h2,H];rw[if_neg hr,if_pos (And.intro M N),if_neg O]
       first|done|exact p
    ·skip
     by_cases O:((a+b) / 2)<((a+b) / 2+m - i)/\((a+b) / 2+m - i)<b
     ·obtain⟨D,E⟩:=O
      have C:=h.on (l.trans' h.blkLt u (rfl:d.size=d.size)) (rfl:d.size=d.size);have r:=z C (((a+b) / 2)) (((a+b) / 2+m - i)) (b) (by omega) (by omega) (by omega) (by have:=(rfl:d.size=d.size); omega);rw[← HMID.out]at r
      go_wp2_with (go_at_fn (ρ.f 30); refine r.mono ?_; rintro e1 V ⟨rfl,t⟩; have k:=u.trans' (l.lt h.blkLt) t (zi _ _ _ _ _ _); have c1a:=k.cell' (v:=.func (.func g) #[] lb) (o:=0) n (by simp) (by simp); have c1b:=k.cell' (v:=.func (.func sf) #[] sb) (o:=1) n (by simp) (by simp))
      all_goals
       have z1:(nF lt F ((a+b) / 2) ((a+b) / 2+m - i) b d).size=d.size:=(zi _ _ _ _ _ _).trans (rfl:d.size=d.size)
       go_end0
       refine⟨rfl,?_⟩;have p:=l.trans' h.blkLt k z1;have H:zW lt a m b d=i:=by unfold zW; rw[if_neg hm,if_neg hm]; exact HI.out.symm
       unfold nF bm;simp only[if_neg h1,if_neg h2,H];rw[if_neg hr,if_neg S,if_pos (And.intro D E)]
       first|done|exact p
     ·skip
      go_wp2
      all_goals
       go_end0
       refine⟨rfl,?_⟩;have p:=l.trans' h.blkLt u (rfl:d.size=d.size);have H:zW lt a m b d=i:=by unfold zW; rw[if_neg hm,if_neg hm]; exact HI.out.symm
       unfold nF bm;simp only[if_neg h1,if_neg h2,H];rw[if_neg hr,if_neg S,if_neg O]
       first|done|exact p
end Go.Proofs
end
section
namespace Go.Proofs
open Go.Shelf Go.RowKit Go.Lib Go.Sort
variable {P:Program} {ρ:Ren} {α:Type} [Inhabited α] {enc:α->Value} {lt:α->α->Bool} {g:Nat} {lb:Array Value} {sf:Nat} {sb:Array Value} {blk off:Nat}
theorem Any.symMerge_func (L:LaysGt.n15 P ρ):∀(F:Nat) {d:Array α} {W:World} (h:SSt P enc lt g lb sf sb blk off d W) (a m b:Nat) (j:b - a<=F) (c:a<m) (i:m<b) (k:b<=d.size),
  Calls P (ρ.f 30) #[lsD g lb sf sb,.int .i64 a,.int .i64 m,.int .i64 b] W fun e w'=>e=.returned (.tuple #[])/\SW enc W blk off (nF lt F a m b d) w'
 | 0,_,_,_,a,m,b,j,c,i,_=>by omega
 | F+1,d,W,h,a,m,b,j,c,i,k=>by
  have ihS:=fun{d:Array α} {W:World} (h:SSt P enc lt g lb sf sb blk off d W) a m b=>Any.symMerge_func L F h a m b;by_cases h1:m - a=1
  ·exact Any.symMerge_c1 L F h a m b j c i k h1
  by_cases h2:b - m=1
  ·exact Any.symMerge_c2 L F h a m b j c i k h1 h2
  by_cases hm:(a+b) / 2<m
  ·exact Any.symMerge_c3 L F h a m b j c i k h1 h2 hm ihS
  exact Any.symMerge_c4 L F h a m b j c i k h1 h2 hm ihS
end Go.Proofs
end
section
namespace Go.Proofs
open Go.Shelf Go.RowKit Go.Lib Go.Sort
section
variable {α:Type} [Inhabited α]
def Pv (lt:α->α->Bool) (n:Nat):Nat->Nat->Array α->Nat×Array α
 | 0,a,d=>(a,d)
 | f+1,a,d=>if a+20<=n then Pv lt n f (a+20) (Sort.insertionSort lt d a (a+20))else(a,d)
def RR (lt:α->α->Bool) (n bs:Nat):Nat->Nat->Array α->Nat×Array α
 | 0,a,d=>(a,d)
 | f+1,a,d=>if a+2 * bs<=n then RR lt n bs f (a+2 * bs) (nF lt n a (a+bs) (a+2 * bs) d)else(a,d)
def qda (lt:α->α->Bool) (n bs:Nat) (x:Nat×Array α):Array α:=if x.1+bs<n then nF lt n x.1 (x.1+bs) n x.2 else x.2
def lM (lt:α->α->Bool) (n:Nat):Nat->Nat->Array α->Array α
 | 0,_,d=>d
 | f+1,bs,d=>if bs<n then lM lt n f (2 * bs) (qda lt n bs (RR lt n bs n 0 d))else d
def stP (lt:α->α->Bool) (d:Array α):Array α:=
 lM lt d.size d.size 20 (Sort.insertionSort lt (Pv lt d.size d.size 0 d).2 (Pv lt d.size d.size 0 d).1 d.size)
theorem Sy {lt:α->α->Bool} {n f a:Nat} {d:Array α} (h:¬ a+20<=n):Pv lt n f a d=(a,d):=by
 cases f with
 | zero=>rfl
 | succ f=>unfold Pv; rw[if_neg h]
theorem iB {lt:α->α->Bool} {n bs f a:Nat} {d:Array α} (h:¬ a+2 * bs<=n):RR lt n bs f a d=(a,d):=by
 cases f with
 | zero=>rfl
 | succ f=>unfold RR; rw[if_neg h]
theorem RY {lt:α->α->Bool} {n f bs:Nat} {d:Array α} (h:¬ bs<n):lM lt n f bs d=d:=by
 cases f with
 | zero=>rfl
 | succ f=>unfold lM; rw[if_neg h]
end
variable {P:Program} {ρ:Ren} {α:Type} [Inhabited α] {enc:α->Value} {lt:α->α->Bool} {g:Nat} {lb:Array Value} {sf:Nat} {sb:Array Value} {blk off:Nat}
section
abbrev SwK (Q:Array α->Prop):Prop:=∀ d i j,Q d->Q (swp d i j)
theorem Ug {Q:Array α->Prop} (b:SwK Q) (lt:α->α->Bool) (a:Nat):∀(j:Nat) (d:Array α),Q d->Q (Sort.insInner lt a j d)
 | 0,_,h=>by unfold Sort.insInner; exact h
 | j+1,d,h=>by
  unfold Sort.insInner;split
  ·exact Ug b lt a j _ (b _ _ _ h)
  exact h
theorem Uh {Q:Array α->Prop} (c:SwK Q) (lt:α->α->Bool) (a b:Nat):∀(k i:Nat) (d:Array α),b - i<=k->Q d->Q (Sort.insOuter lt a b i d)
 | 0,i,d,hk,h=>by rw[Sort.insOuter,if_neg (by omega)]; exact h
 | k+1,i,d,hk,h=>by
  rw[Sort.insOuter];split
  ·exact Uh c lt a b k (i+1) _ (by omega) (Ug c lt a i d h)
  exact h
theorem Ed {Q:Array α->Prop} (c:SwK Q) (lt:α->α->Bool) (a b:Nat) (d:Array α) (h:Q d):Q (Sort.insertionSort lt d a b):=by
 unfold Sort.insertionSort; exact Uh c lt a b _ _ d (Nat.le_refl _) h
theorem mW {Q:Array α->Prop} (c:SwK Q) (a b:Nat):∀(k i:Nat) (d:Array α),Q d->Q (gL a b k i d)
 | 0,_,_,h=>h
 | k+1,i,d,h=>mW c a b k (i+1) _ (c _ _ _ h)
theorem Xh {Q:Array α->Prop} (a:SwK Q) (m:Nat):∀(f i j:Nat) (d:Array α),Q d->Q (xU m f i j d)
 | 0,i,_,d,h=>mW a _ _ _ _ _ h
 | f+1,i,j,d,h=>by
  unfold xU;split
  ·exact mW a _ _ _ _ _ h
  split
  ·exact Xh a m f _ _ _ (mW a _ _ _ _ _ h)
  exact Xh a m f _ _ _ (mW a _ _ _ _ _ h)
theorem Pk {Q:Array α->Prop} (a:SwK Q):∀(c k:Nat) (d:Array α),Q d->Q (upP c k d)
 | 0,_,_,h=>h
 | c+1,k,d,h=>Pk a c (k+1) _ (a _ _ _ h)
theorem Nb {Q:Array α->Prop} (a:SwK Q):∀(c k:Nat) (d:Array α),Q d->Q (dnP c k d)
 | 0,_,_,h=>h
 | c+1,k,d,h=>Nb a c (k - 1) _ (a _ _ _ h)
theorem MD {Q:Array α->Prop} (a:SwK Q) (m s e:Nat) (d:Array α) (h:Q d):Q (bm m s e d):=by
 unfold bm;split
 ·exact Xh a _ _ _ _ _ h
 exact h
theorem Xj {Q:Array α->Prop} (c:SwK Q) (lt:α->α->Bool):∀(f a m b:Nat) (d:Array α),Q d->Q (nF lt f a m b d)
 | 0,_,_,_,_,h=>h
 | f+1,a,m,b,d,h=>by
  unfold nF;split
  ·exact Pk c _ _ _ h
  split
  ·exact Nb c _ _ _ h
  simp only;have h1:=MD c m (zW lt a m b d) ((a+b) / 2+m - zW lt a m b d) d h;split
  ·refine Xj c lt f _ _ _ _ ?_
   split
   ·exact Xj c lt f _ _ _ _ h1
   exact h1
  split
  ·exact Xj c lt f _ _ _ _ h1
  exact h1
theorem ES {Q:Array α->Prop} (b:SwK Q) (lt:α->α->Bool) (n:Nat):∀(f a:Nat) (d:Array α),Q d->Q (Pv lt n f a d).2
 | 0,_,_,h=>h
 | f+1,a,d,h=>by
  unfold Pv;split
  ·exact ES b lt n f _ _ (Ed b lt _ _ _ h)
  exact h
theorem HN {Q:Array α->Prop} (b:SwK Q) (lt:α->α->Bool) (n bs:Nat):∀(f a:Nat) (d:Array α),Q d->Q (RR lt n bs f a d).2
 | 0,_,_,h=>h
 | f+1,a,d,h=>by
  unfold RR;split
  ·exact HN b lt n bs f _ _ (Xj b lt _ _ _ _ _ h)
  exact h
theorem SM {Q:Array α->Prop} (a:SwK Q) (lt:α->α->Bool) (n bs:Nat) (x:Nat×Array α) (h:Q x.2):Q (qda lt n bs x):=by
 unfold qda;split
 ·exact Xj a lt _ _ _ _ _ h
 exact h
theorem EN {Q:Array α->Prop} (a:SwK Q) (lt:α->α->Bool) (n:Nat):∀(f bs:Nat) (d:Array α),Q d->Q (lM lt n f bs d)
 | 0,_,_,h=>h
 | f+1,bs,d,h=>by
  unfold lM;split
  ·exact EN a lt n f _ _ (SM a lt _ _ _ (HN a lt _ _ _ _ _ h))
  exact h
theorem od {Q:Array α->Prop} (a:SwK Q) (lt:α->α->Bool) (d:Array α) (h:Q d):Q (stP lt d):=by
 unfold stP;exact EN a lt _ _ _ _ (Ed a lt _ _ _ (ES a lt _ _ _ _ h))
end
theorem Ec (lt:α->α->Bool) (d:Array α) (a b:Nat):(Sort.insertionSort lt d a b).size=d.size:=
 Ed (Q:=fun x=>x.size=d.size) (fun x i j h=>(size_swp x i j).trans h) lt a b d rfl
theorem Pa (lt:α->α->Bool) (d:Array α):(stP lt d).size=d.size:=
 od (Q:=fun x=>x.size=d.size) (fun x i j h=>(size_swp x i j).trans h) lt d rfl
theorem SSt.ins (i:LaysGg.n26 P ρ.viaGt) {d:Array α} {W:World} (h:SSt P enc lt g lb sf sb blk off d W) (a b:Nat) (c:a<=b) (j:b<=d.size) :
  Calls P (ρ.f 29) #[lsD g lb sf sb,.int .i64 a,.int .i64 b] W fun e w'=>e=.returned (.tuple #[])/\SW enc W blk off (Sort.insertionSort lt d a b) w':=
 (Any.insertionSort_func_w i enc lt g lb sf sb blk off a b d W h.eg h.less h.swap h.holds h.blkLt c j (by have:=h.big; omega)).mono fun _ _ h=>⟨h.1,h.2⟩
set_option maxHeartbeats 4000000 in
set_option maxRecDepth 100000 in
theorem Any.stable_func (L:LaysGt.n15 P ρ) {d:Array α} {W:World} (h:SSt P enc lt g lb sf sb blk off d W) :
  Calls P (ρ.f 15) #[lsD g lb sf sb,.int .i64 d.size] W fun e w'=>e=.returned (.tuple #[])/\SW enc W blk off (stP lt d) w':=by
 have mixed:=L.mixed; have t0:=L.t0; have a0:=L.a0; have z0:=L.z0; have v0:=L.v0; have t3:=L.t3; have a3:=L.a3; have z3:=L.z3; have v3:=L.v3; have t4:=L.t4; have a4:=L.a4; have z4:=L.z4; have v4:=L.v4; have t26:=L.t26; have a26:=L.a26; have z26:=L.z26; have v26:=L.v26; have t38:=L.t38; have a38:=L.a38; have z38:=L.z38; have v38:=L.v38; have t42:=L.t42; have a42:=L.a42; have z42:=L.z42; have v42:=L.v42; have t47:=L.t47; have a47:=L.a47; have z47:=L.z47; have v47:=L.v47;have u42:=kru L.t42;have e29:∀ args w,(callFunc (ρ.f 29) args).run P w=.ok (.enter (ρ.f 29) args) w:=enters_of L.f29 (by kernel_rfl) rfl;have e30:∀ args w,(callFunc (ρ.f 30) args).run P w=.ok (.enter (ρ.f 30) args) w:=enters_of L.f30 (by kernel_rfl) rfl;have LI:LaysGg.n26 P ρ.viaGt:=({ L with }:LaysGt.n29 P ρ).elder
 have n:W.heap.size≠blk:=by have:=h.blkLt; omega
 have O:=h.big;have i:SW enc W blk off d (QQ ρ g lb sf sb W):=h.box;have ihS:=fun{d:Array α} {W:World} (h:SSt P enc lt g lb sf sb blk off d W) F a m b=>Any.symMerge_func L F h a m b;have ihI:=fun{d:Array α} {W:World} (h:SSt P enc lt g lb sf sb blk off d W) a b=>h.ins LI a b
 go_enter L.f15,BodyGt.n15_ntmps ρ
 go_wp2
 go_loopw [5,6] (fun u H wr=>∃(f a:Nat) (dk:Array α),u=.int .i64 a/\H=.int .i64 ((a:Int)+20)/\a<=d.size/\d.size<=a+f/\dk.size=d.size/\SW enc (QQ ρ g lb sf sb W) blk off dk wr/\Pv lt d.size f a dk=Pv lt d.size d.size 0 d) (fun u _ _=>d.size - (intOf u).toNat)
 case atStart=>exact⟨d.size,0,d,by go_num,by go_num,by omega,by omega,rfl,.start (i.holds h.blkLt h.holds rfl),rfl⟩
 case round=>
  obtain⟨f,a,dk,rfl,rfl,S,hf,p,A,Q⟩:=hrel;have HO:Hid (Pv lt d.size f a dk=Pv lt d.size d.size 0 d):=Q;clear Q;have c0:=A.cell' (v:=.func (.func g) #[] lb) (o:=0) n (by simp) (by simp);have c1:=A.cell' (v:=.func (.func sf) #[] sb) (o:=1) n (by simp) (by simp);have B:=h.on (i.trans' h.blkLt A p) p;by_cases C:a+20<=d.size
  ·obtain⟨I,rfl⟩:∃ I,f=I+1:=⟨f - 1,by omega⟩
   have l:=ihI B a (a+20) (by omega) (by omega);rw[show(((a+20:Nat)):Int)=(a:Int)+20 by omega]at l
   go_wp2_with (go_at_fn (ρ.f 29); refine l.mono ?_; rintro e1 T ⟨rfl,h1⟩)
   go_roundw
   case rel=>
    refine⟨I,a+20,Sort.insertionSort lt dk a (a+20),by congr 1<;>omega,by congr 1<;>omega,by omega,by omega,by rw[Ec]; exact p,A.trans' (i.lt h.blkLt) h1 (Ec _ _ _ _),?_⟩;rw[← HO.out];conv=>rhs; unfold Pv;rw[if_pos C]
   case measure=>simp[intOf]; omega
  ·have J:=HO.out
   rw[Sy C]at J;have HI:Hid ((a,dk)=Pv lt d.size d.size 0 d):=J;clear HO J;have l:=ihI B a d.size (by omega) (by omega)
   go_wp2_with (go_at_fn (ρ.f 29); refine l.mono ?_; rintro e1 T ⟨rfl,K⟩; have M:=A.trans' (i.lt h.blkLt) K (Ec _ _ _ _))
   have z1:(Sort.insertionSort lt dk a d.size).size=d.size:=by rw[Ec]; exact p
   go_loopw [4] (fun vs w2=>∃(f bs:Nat) (d2:Array α),vs=.int .i64 bs/\1<=bs/\bs<9223372036854775808/\d.size<=bs+f/\d2.size=d.size/\SW enc (QQ ρ g lb sf sb W) blk off d2 w2/\lM lt d.size f bs d2=stP lt d) (fun vs _=>d.size - (intOf vs).toNat)
   case atStart=>exact⟨d.size,20,_,by go_num,by omega,by omega,by omega,z1,M,by unfold stP; rw[← HI.out]⟩
   case round=>
    obtain⟨f2,bs,d2,rfl,U,V,X,r,D,E⟩:=hrel;have HO2:Hid (lM lt d.size f2 bs d2=stP lt d):=E;clear E;by_cases x:bs<d.size
    ·obtain⟨q,rfl⟩:∃ q,f2=q+1:=⟨f2 - 1,by omega⟩
     go_wp2
     go_loopw [5,6] (fun u H Y=>∃(f a:Nat) (d3:Array α),u=.int .i64 a/\H=.int .i64 ((a:Int)+2 * bs)/\a<=d.size/\d.size<=a+f/\d3.size=d.size/\SW enc (QQ ρ g lb sf sb W) blk off d3 Y/\RR lt d.size bs f a d3=RR lt d.size bs d.size 0 d2) (fun u _ _=>d.size - (intOf u).toNat)
     case atStart=>exact⟨d.size,0,d2,by go_num,by congr 1<;>omega,by omega,by omega,r,D,rfl⟩
     case round=>
      obtain⟨f3,c,d3,rfl,rfl,R,Z,j,k,G⟩:=hrel;have HO3:Hid (RR lt d.size bs f3 c d3=RR lt d.size bs d.size 0 d2):=G;clear G;have c0:=k.cell' (v:=.func (.func g) #[] lb) (o:=0) n (by simp) (by simp);have c1:=k.cell' (v:=.func (.func sf) #[] sb) (o:=1) n (by simp) (by simp);have s:=h.on (i.trans' h.blkLt k j) j;by_cases t:c+2 * bs<=d.size
      ·obtain⟨y,rfl⟩:∃ y,f3=y+1:=⟨f3 - 1,by omega⟩
       have l:=ihS s d.size c (c+bs) (c+2 * bs) (by omega) (by omega) (by omega) (by omega);rw[show(((c+bs:Nat)):Int)=(c:Int)+bs by omega,show(((c+2 * bs:Nat)):Int)=(c:Int)+2 * bs by omega]at l
       go_wp2_with (go_at_fn (ρ.f 30); refine l.mono ?_; rintro e3 w4 ⟨rfl,h4⟩)
       go_roundw
       case rel=>
        refine⟨y,c+2 * bs,nF lt d.size c (c+bs) (c+2 * bs) d3,by congr 1<;>omega,by congr 1<;>omega,by omega,by omega,by rw[zi]; exact j,k.trans' (i.lt h.blkLt) h4 (zi _ _ _ _ _ _),?_⟩;rw[← HO3.out];conv=>rhs; unfold RR;rw[if_pos t]
       case measure=>simp[intOf]; omega
      ·have z:=HO3.out
       rw[iB t]at z;have HI3:Hid ((c,d3)=RR lt d.size bs d.size 0 d2):=z;clear HO3 z;by_cases hm:c+bs<d.size
       ·have l:=ihS s d.size c (c+bs) d.size (by omega) (by omega) (by omega) (by omega)
        rw[show(((c+bs:Nat)):Int)=(c:Int)+bs by omega]at l;have N:(c:Int)+bs<d.size:=by omega
        go_wp2_with (go_at_fn (ρ.f 30); refine l.mono ?_; rintro e3 w4 ⟨rfl,h4⟩)
        go_roundw
        case rel=>
         refine⟨q,2 * bs,nF lt d.size c (c+bs) d.size d3,by congr 1<;>omega,by omega,by omega,by omega,by rw[zi]; exact j,k.trans' (i.lt h.blkLt) h4 (zi _ _ _ _ _ _),?_⟩;rw[← HO2.out];conv=>rhs; unfold lM;rw[if_pos x,← HI3.out];unfold qda;rw[if_pos hm]
        case measure=>simp[intOf]; omega
       ·have N:¬ (c:Int)+bs<d.size:=by omega
        go_wp2
        go_roundw
        case rel=>
         refine⟨q,2 * bs,d3,by congr 1<;>omega,by omega,by omega,by omega,j,k,?_⟩;rw[← HO2.out];conv=>rhs; unfold lM;rw[if_pos x,← HI3.out];unfold qda;rw[if_neg hm]
        case measure=>simp[intOf]; omega
    ·go_wp2
     go_end0
     refine⟨rfl,?_⟩;have e:=HO2.out;rw[RY x]at e;rw[← e];exact i.trans' h.blkLt D r
theorem Any.sort_SliceStable (L:LaysGt.n8 P ρ) (t e:TypeId) (i b:TypeInfo) (A:P.info? t=some i) (B:i.desc=.slice e) (r:P.packed t=false) (k:P.info? e=some b) (l:Nat) (s:∀ w,(Extern.Rtype.kind e).run P w=.ok l w)
  (m:b.size=1) (h:∀ w,(isAgg e).run P w=.ok false w) (enc:α->Value) (h1:∀ x,(enc x).oneCell'=true) (lt:α->α->Bool) (g:Nat) (lb:Array Value)
  (eg:∀ args w,(callFunc g args).run P w=.ok (.enter g args) w) (blk off c:Nat) (d:Array α) (h2:2<=d.size) (j:d.size<4611686018427387904)
  (f:Nat) (w:World) (o:∀ R:World->Prop,Calls P (ρ.f 15) #[.agg #[.func (.func g) #[] lb,.func (.func f) #[] (sliceBound P e b l (some ⟨blk,off,none⟩) d.size c)],.int .i64 d.size] (stableWorld P ρ t (some ⟨blk,off,none⟩) d.size c w) (fun e w'=>e=.returned (.tuple #[])/\R w') ->
   Calls P (ρ.f 8) #[.iface t (.slice (some ⟨blk,off,none⟩) d.size c),.func (.func g) #[] lb] w fun e w'=>e=.returned (.tuple #[])/\R w')
  (p:Bool) (u:∀ args W,(callFunc f args).run P W=((Extern.ReflectliteSwapper.swap p args).run P W).andThen fun v w'=>.ok (.value v) w')
  (hless:LessReads P g lb enc lt blk off d.size w) (y:Holds enc w blk off d) (a:blk<w.heap.size) :
  Calls P (ρ.f 8) #[.iface t (.slice (some ⟨blk,off,none⟩) d.size c),.func (.func g) #[] lb] w fun e w'=>
   e=.returned (.tuple #[])/\∃ n os,w'=grow (putRow enc (Sort.ahead w n) blk off (stP lt d)) os:=by
 refine o _ ?_;have z:sliceBound P e b l (some ⟨blk,off,none⟩) d.size c = #[.slice (some ⟨blk,off,none⟩) d.size c,typeHandle P e]:=by
  unfold sliceBound; rw[if_neg (swapperK_gt _ _ _ h2)]
 have q:stableWorld P ρ t (some ⟨blk,off,none⟩) d.size c w=grow w #[.cells #[.slice (some ⟨blk,off,none⟩) d.size c] t,.cells #[.pointer (some ⟨P.globals.size,t,none⟩),.pointer (some ⟨w.heap.size,0,none⟩),.int .u64 151] (ρ.t 36)]:=by
  unfold stableWorld; rw[alloc_eq_grow,alloc_eq_grow,grow_grow]; rfl
 generalize (#[.cells #[.slice (some ⟨blk,off,none⟩) d.size c] t,.cells #[.pointer (some ⟨P.globals.size,t,none⟩),.pointer (some ⟨w.heap.size,0,none⟩),.int .u64 151] (ρ.t 36)]:Array Obj)=os0 at q;rw[z,q];have hp:=Any.stable_func (P:=P) (ρ:=ρ) { L with } (enc:=enc) (lt:=lt) (g:=g) (lb:=lb) (sf:=f) (blk:=blk) (off:=off) (d:=d) (W:=grow w os0) ⟨eg,hless.grow a os0,
  swapSwaps_of_literal p f u e b k m h enc h1 blk off d.size c,holds_grow enc w _ blk off d a y,by rw[size_grow]; omega,j⟩
 refine hp.mono ?_;rintro e w' ⟨rfl,n,os,rfl⟩;exact⟨rfl,n,_,by unfold sortWorld; rw[ahead_grow,putRow_grow enc (Sort.ahead w n) _ blk off _ a,grow_grow]⟩
end Go.Proofs
end
section
open Go Go.Proofs Go.RowKit Go.Lib Ax
namespace W
variable {Lw:Nat}
def ltN (names:List (List UInt8)) (m:Nat):Fin (m+1)->Fin (m+1)->Bool:=fun i j=>Op.bytesLess (names.getD i.val []) (names.getD j.val [])
def stI (names:List (List UInt8)) (m:Nat) (a:List Int):List Int:=(stP (ltN names m) (a.map fun i=>Fin.ofNat (m+1) i.toNat).toArray).toList.map fun x=>((x.val:Nat):Int)
def iX (names:List (List UInt8)) (a:List Int):Option (List Int):=
 chk (decide (a.length<4611686018427387904)) (chk (a.all fun i=>decide (0<=i)&&Nat.blt i.toNat names.length) (some (bif Nat.ble a.length 1 then a else stI names (names.length - 1) a)))
theorem qb3 (blk cap n Bn Ba bs o capN:Nat) (names:List (List UInt8)) (W:World) (G:Nat->Nat)
  (hn:W.cell? ⟨Bn,0,none⟩=some (.slice (some ⟨bs,o,none⟩) names.length capN)) (ha:W.cell? ⟨Ba,0,none⟩=some (.slice (some ⟨blk,0,none⟩) n cap))
  (hc:∀ t,t<n->W.cell? ⟨blk,t,none⟩=some (.int .i64 (G t:Nat))) (hs:∀ t,t<names.length->W.cell? ⟨bs,o+t,none⟩=some (.string ⟨(names.getD t []).toArray⟩))
  (hG:∀ t,t<n->G t<names.length) (i j:Nat) (hi:i<n) (hj:j<n) :
  Calls Tryz.prog 236 #[.int .i64 i,.int .i64 j,.pointer (some ⟨Bn,0,none⟩),.pointer (some ⟨Ba,0,none⟩)] W fun e w'=>e=.returned (.bool (Op.bytesLess (names.getD (G i) []) (names.getD (G j) [])))/\∃ q,w'=W.drewN q:=by
 have ci:=hc i hi
 have cj:=hc j hj
 have gi:=hG i hi
 have gj:=hG j hj
 have si:=hs (G i) gi
 have sj:=hs (G j) gj
 go_enter Tryz.func236,Tryz.ntmps236
 go_wp2
 go_quiet (fail)
 go_wp2
 go_ret
 refine⟨?_,nq,rfl⟩
 simp[List.getD_eq_getElem?_getD,gi,gj]
theorem Tw {H:PH Lw}:∀{ss:List Int} {xs:List Value},gk H 1 (xZ .i64 ss) xs->xs=ss.map fun s=>Value.int .i64 s
 | [],xs,h=>by simpa[xZ,gk]using h
 | s::ss,xs,h=>by
  simp only[xZ,List.map_cons,gk]at h
  obtain⟨_,a,b,rfl,ha,hb⟩:=h
  have e:=Tw (ss:=ss) (xs:=b) hb
  simp only[zC,qO]at ha
  obtain⟨_,_,rfl,rfl,rfl⟩:=ha
  rw[e]
  rfl
theorem Hq {H:PH Lw}:∀(ss:List Int),gk H 1 (xZ .i64 ss) (ss.map fun s=>Value.int .i64 s)
 | []=>by simp[xZ,gk]
 | s::ss=>⟨rfl,[_],_,rfl,by simp only[zC,qO]; exact⟨_,_,rfl,rfl,rfl⟩,Hq ss⟩
theorem Ee (ss:List Int):(xZ .i64 ss).length=ss.length:=by simp[xZ]
theorem Gj (names:List (List UInt8)) (m:Nat) (a:List Int):(stI names m a).length=a.length:=by simp[stI,Pa]
noncomputable def siT:TypeInfo:=(Tryz.prog.info? 289).get (by kernel_rfl)
noncomputable def siE:TypeInfo:=(Tryz.prog.info? 3).get (by kernel_rfl)
theorem siK (n:Nat) (h2:2<=n):Lib.swapperK n siE 2=5:=by
 have a:siE.hasPointers=false:=by kernel_rfl
 have b:siE.bytes=8:=by kernel_rfl
 have c:(n==0)=false:=by simp; omega
 have d:(n==1)=false:=by simp; omega
 simp[Lib.swapperK,a,b,c,d]
theorem qhn:Lib.swapperK 0 siE 2=1:=by simp[Lib.swapperK]
theorem qho:Lib.swapperK 1 siE 2=2:=by simp[Lib.swapperK]
theorem oe (n cap:Nat) (p:Option Addr) (hn:n<=1) (lb:Array Value) (w:World) :
  Calls Tryz.prog 235 #[.iface 289 (.slice p n cap),.func (.func 236) #[] lb] w fun e w'=>e=.returned (.tuple #[])/\∃ os,w'=Go.Sort.grow w os:=by
 rcases(by omega:n=0\/n=1)with rfl|rfl
 ·exact Any.sort_SliceStable_tiny Tryz.laysGt8 289 3 siT siE (by kernel_rfl) (by kernel_rfl) (by kernel_rfl) (by kernel_rfl) 2 (fun _=>by kernel_rfl) p 0 cap (by omega) 290 (by rw[qhn]; kernel_rfl) _ _ _ w
 ·exact Any.sort_SliceStable_tiny Tryz.laysGt8 289 3 siT siE (by kernel_rfl) (by kernel_rfl) (by kernel_rfl) (by kernel_rfl) 2 (fun _=>by kernel_rfl) p 1 cap (by omega) 291 (by rw[qho]; kernel_rfl) _ _ _ w
abbrev LU (m:Nat):Fin (m+1)->Value:=fun x=>.int .i64 ((x.val:Nat):Int)
abbrev Du (m:Nat) (a:List Int):Array (Fin (m+1)):=(a.map fun i=>Fin.ofNat (m+1) i.toNat).toArray
theorem qd9 (names:List (List UInt8)) (m:Nat) (hm:names.length=m+1) (a:List Int) (g cap Bn Ba bs o capN:Nat) (w:World)
  (h2:2<=a.length) (hbig:a.length<4611686018427387904)
  (hn:w.cell? ⟨Bn,0,none⟩=some (.slice (some ⟨bs,o,none⟩) names.length capN)) (ha:w.cell? ⟨Ba,0,none⟩=some (.slice (some ⟨g,0,none⟩) a.length cap))
  (hs:∀ t,t<names.length->w.cell? ⟨bs,o+t,none⟩=some (.string ⟨(names.getD t []).toArray⟩))
  (hH:Go.Sort.Holds (LU m) w g 0 (Du m a)) (gb:g<w.heap.size) (nn:Bn≠g) (na:Ba≠g) (ns:bs≠g) (ln:Bn<w.heap.size) (la:Ba<w.heap.size) (ls:bs<w.heap.size) :
  Calls Tryz.prog 235 #[.iface 289 (.slice (some ⟨g,0,none⟩) a.length cap),.func (.func 236) #[] #[.pointer (some ⟨Bn,0,none⟩),.pointer (some ⟨Ba,0,none⟩)]] w fun e w'=>
   e=.returned (.tuple #[])/\∃ n os,w'=Go.Sort.grow (Go.Sort.putRow (LU m) (Go.Sort.ahead w n) g 0 (stP (ltN names m) (Du m a))) os:=by
 have hsz:(Du m a).size=a.length:=by simp[Du]
 have hless:LessReads Tryz.prog 236 #[.pointer (some ⟨Bn,0,none⟩),.pointer (some ⟨Ba,0,none⟩)] (LU m) (ltN names m) g 0 (Du m a).size w:=by
  intro q os dk hd i j hi hj
  have e:sortWorld (LU m) w g 0 q dk os=Go.Sort.putRow (LU m) (Go.Sort.grow (Go.Sort.ahead w q) os) g 0 dk:=by
   unfold sortWorld; rw[Go.Sort.putRow_grow _ (Go.Sort.ahead w q) _ g 0 _ gb]
  have hHg:Go.Sort.Holds (LU m) (Go.Sort.grow (Go.Sort.ahead w q) os) g 0 (Du m a):=Go.Sort.holds_grow _ _ _ g 0 _ gb (Go.Sort.holds_ahead _ _ _ _ _ _ hH)
  have other:∀ b x v,b≠g->b<w.heap.size->w.cell? ⟨b,x,none⟩=some v->(sortWorld (LU m) w g 0 q dk os).cell? ⟨b,x,none⟩=some v:=fun b x v h1 h2 h3=>by
   rw[e,Go.Sort.cell?_putRow_other _ _ g 0 dk _ (Or.inl h1),Go.Sort.cell?_grow _ _ _ h2]; exact h3
  have:=qb3 g cap a.length Bn Ba bs o capN names (sortWorld (LU m) w g 0 q dk os) (fun t=>(dk[t]!).val) (other _ _ _ nn ln hn) (other _ _ _ na la ha) (fun t ht=>by
   rw[e]
   have:=Go.Sort.cell?_putRow (LU m) (Go.Sort.grow (Go.Sort.ahead w q) os) g 0 (Du m a) dk hHg hd t (by rw[hd,hsz]; exact ht)
   rw[jx]at this
   exact this) (fun t ht=>other _ _ _ ns ls (hs t ht)) (fun t _=>by rw[hm]; exact(dk[t]!).isLt) i j (by rw[← hsz]; exact hi) (by rw[← hsz]; exact hj)
  exact this
 have hS:=Any.sort_SliceStable Tryz.laysGt8 289 3 siT siE (by kernel_rfl) (by kernel_rfl) (by kernel_rfl) (by kernel_rfl) 2 (fun _=>by kernel_rfl) (by kernel_rfl) (fun _=>by kernel_rfl) (LU m) (fun _=>rfl) (ltN names m) 236 _
  (fun _ _=>Tryz.call236 _ _) g 0 cap (Du m a) (by rw[hsz]; exact h2) (by rw[hsz]; exact hbig) 294 w
  (fun R hp=>Any.sort_SliceStable_of_stable Tryz.laysGt8 289 3 siT siE (by kernel_rfl) (by kernel_rfl) (by kernel_rfl) (by kernel_rfl) 2 (fun _=>by kernel_rfl) _ _ cap (by rw[hsz]; exact hbig) 294 (by rw[hsz,siK _ h2]; kernel_rfl) _ _ _ w R hp) true
  (fun args W=>run_callFunc_extern Tryz.func294 (by kernel_rfl) (by kernel_rfl) (by kernel_rfl) (e:=Extern.ReflectliteSwapper.swap true) (by kernel_rfl) args W) hless hH gb
 rw[hsz]at hS
 exact hS
theorem SC {H:PH Lw} {w:World} (s:SatH H w) (os:Array Obj):Calm H w H (Go.Sort.grow w os):=
 ⟨PH.le.refl H,s.block (by simp[Go.Sort.grow]) fun b _ _ hv=>Go.Sort.heap_grow_old w os (s.lt hv),⟨rfl,rfl,rfl,by simp[Go.Sort.grow],fun b hb _=>Go.Sort.heap_grow_old w os hb⟩,fun _ _ v hv=>.inl ⟨v,hv⟩⟩
theorem eT {α:Type} {l:List α} {k:Nat} {x:α} (h:l[k]? =some x):l.set k x=l:=by
 refine List.ext_getElem? fun i=>?_
 rw[List.getElem?_set]
 split
 ·rename_i e; subst e
  obtain⟨hl,_⟩:=List.getElem?_eq_some_iff.1 h
  rw[if_pos hl,h]
 ·rfl
set_option maxRecDepth 100000 in
theorem qb4 {lo lo':List AObj} {k kn ka n:Nat} {names:List (List UInt8)} {a a':List Int} {R:FV->List AObj->Prop}
  (ho:lo[k]? =some (.vec 3 1 (xZ .i64 a))) (hn:lo[kn]? =some (.box 22 [.p (.sl (qv names))])) (ha:lo[ka]? =some (.box 289 [.vsl k n])) (hst:iX names a=some a')
  (hl:lo.set k (.vec 3 1 (xZ .i64 a'))=lo') (hR:R (.p (.tup [])) lo') :
  zh Tryz.prog 235 [.ifs 289 (.vsl k n),.clo 236 (.cap (.ptr kn 0) (.cap (.ptr ka 0) .cap0))] lo R:=by
 obtain⟨h1,hst⟩:=qu hst
 obtain⟨h2,hst⟩:=qu hst
 have hst:=Option.some.inj hst
 have hbig:=kod h1
 intro Lw bs ρ H w vs s rl
 obtain⟨v1,_,rfl,⟨u,rfl,hρ,hu⟩,v2,_,rfl,⟨cs,rfl,rc⟩,rfl⟩:=rl
 obtain⟨p1,c1,e1,r1,p2,c2,e2,r2,e3⟩:=(show ∃ p1 c1,cs=p1::c1/\qY ρ H (.ptr kn 0) p1/\∃ p2 c2,c1=p2::c2/\qY ρ H (.ptr ka 0) p2/\c2=[]from by
  obtain⟨p1,c1,e1,r1,p2,c2,e2,r2,e3⟩:=rc
  have e1:cs=p1::c1:=by simpa using e1
  have e2:c1=p2::c2:=by simpa using e2
  have e3:c2=[]:=by
   have:Value.tuple c2.toArray=.tuple #[]:=e3
   simpa using this
  exact⟨p1,c1,e1,r1,p2,c2,e2,r2,e3⟩)
 subst e1 e2 e3
 obtain⟨Bn,hbn,rfl⟩:=r1
 obtain⟨Ba,hba,rfl⟩:=r2
 obtain⟨Bn',nv,en,gn,rn,hhn⟩:=s.objs kn _ _ hn hbn
 cases en
 obtain⟨Ba',av,ea,ga,ra,hha⟩:=s.objs ka _ _ ha hba
 cases ea
 obtain⟨nv1,_,rfl,rn,rfl⟩:=rn
 obtain⟨av1,_,rfl,⟨hρ2,_⟩,rfl⟩:=ra
 have:av1=u:=Option.some.inj (hρ2.symm.trans hρ)
 subst this
 rw[Tryz.call235]
 refine⟨rfl,?_⟩
 have iT:a.length<=1->∀(p:Option Addr) (cap:Nat),av1=.slice p a.length cap->Calls Tryz.prog 235 #[.iface 289 av1,.func (.func 236) #[] #[.pointer (some ⟨Bn,0,none⟩),.pointer (some ⟨Ba,0,none⟩)]] w fun en w''=>∃ v r lo',en=.returned v/\tf bs ρ H r lo' v w''/\R r lo':=by
  intro hle p cap e
  subst e
  refine(oe a.length cap p hle _ w).mono fun en w' q=>?_
  obtain⟨rfl,os,rfl⟩:=q
  have ea:a'=a:=by
   rw[← hst]
   have:Nat.ble a.length 1=true:=Nat.ble_eq_true_of_le hle
   rw[this]; rfl
  subst ea
  rw[eT ho]at hl
  subst hl
  exact⟨_,_,_,rfl,⟨ρ,H,List.prefix_refl _,PH.le.refl H,s.calm (SC s.sath os),by simp only[qY,qO]; exact⟨[],rfl,by simp only[zC]⟩⟩,hR⟩
 obtain⟨xs,hown,hr,_,hh⟩:=s.objs k _ _ ho hρ
 have hlen:(xZ .i64 a).length=a.length:=Ee a
 rcases hown.2 with ⟨rfl,h0⟩|⟨g,cap,cur,rfl,_,hg,hnc,hm,hsz,ht⟩
 ·exact iT (by rw[← hlen,h0]; omega) none 0 (by rw[← hlen,h0])
 ·rw[hlen]at iT ⊢
  by_cases hle:a.length<=1
  ·exact iT hle _ _ rfl
  have hall:=List.all_eq_true.1 h2
  obtain⟨x0,a0,ea0⟩:∃ x0 a0,a=x0::a0:=by
   cases a with
   | nil=>simp at hle
   | cons x0 a0=>exact⟨x0,a0,rfl⟩
  obtain⟨m,hmn⟩:∃ m,names.length=m+1:=by
   have:=hall x0 (by rw[ea0]; exact List.mem_cons_self)
   simp only[Bool.and_eq_true]at this
   have:=jh this.2
   exact⟨names.length - 1,by omega⟩
  have hx:∀ i∈a,((Fin.ofNat (m+1) i.toNat).val:Int)=i:=by
   intro i hi
   have:=hall i hi
   simp only[Bool.and_eq_true,kde]at this
   have h3:=jh this.2
   simp only[Fin.ofNat]
   rw[Nat.mod_eq_of_lt (by omega)]
   omega
  have hcur:∀ j (hj:j<a.length),cur[j]? =some (Value.int .i64 a[j]):=by
   intro j hj
   have hxs:=Tw hr
   have:(cur.toList.take ((xZ .i64 a).length * 1))[j]? =xs[j]?:=by rw[ht]
   rw[List.getElem?_take,hxs,List.getElem?_map]at this
   rw[if_pos (by rw[hlen]; omega)]at this
   rw[← Array.getElem?_toList,this]
   simp[List.getElem?_eq_getElem hj]
  have hsz0:(Du m a).size=a.length:=by simp[Du]
  have hrow:∀ j (hj:j<a.length),LU m (Du m a)[j]! =.int .i64 a[j]:=by
   intro j hj
   have e:(Du m a)[j]! =Fin.ofNat (m+1) (a[j]).toNat:=by
    rw[getElem!_pos _ _ (by rw[hsz0]; exact hj)]
    simp[Du]
   show Value.int .i64 (((Du m a)[j]!).val:Int)=_
   rw[e,hx _ (List.getElem_mem hj)]
  have hH:Go.Sort.Holds (LU m) w g 0 (Du m a):=by
   intro j hj
   have hj:j<a.length:=by rw[← hsz0]; exact hj
   refine⟨?_,frozen_of_row w g _ cur 3 hg⟩
   rw[cell_of_row w g _ _ 3 _ hg,jx,hcur j hj,hrow j hj]
  have hnames:∃ b o cap,nv1=.slice (some ⟨b,o,none⟩) names.length cap/\nA H b 1 o (qv names):=by
   simp only[qY,qO]at rn
   rcases rn with ⟨h0,_⟩|⟨b,o,z,cap,e,_,rr⟩
   ·have:(qv names).length=0:=by rw[h0]; rfl
    simp[qv,hmn]at this
   ·refine⟨b,o,cap,by rw[e]; simp[qv],?_⟩
    cases hnm:names with
    | nil=>rw[hnm]at hmn; cases hmn
    | cons y ys=>
     rw[hnm]at rr
     have:z=1:=by
      have:=rr
      simp only[qv,List.map_cons,nA]at this
      simpa using this.1.symm
     rw[← this]; exact rr
  obtain⟨nb,no,ncap,rfl,rr⟩:=hnames
  have hs:∀ t,t<names.length->H nb (no+t)=some (.string ⟨(names.getD t []).toArray⟩):=fun t ht=>by
   refine rN rr t _ ?_
   simp[List.getD_eq_getElem?_getD,List.getElem?_eq_getElem ht]
  have hS:=qd9 names m hmn a g cap Bn Ba nb no ncap w (by omega) hbig (by rw[cell_of_row w Bn _ _ 22 _ gn]; rfl) (by rw[cell_of_row w Ba _ _ 289 _ ga]; rw[hlen]; rfl)
   (fun t ht=>(s.sath.cell _ _ _ (hs t ht)).1) hH (xn hg) (fun e=>by subst e; rw[hg]at gn; cases gn) (fun e=>by subst e; rw[hg]at ga; cases ga)
   (fun e=>by subst e; have:=hs 0 (by omega); rw[hh nb rfl]at this; cases this) (xn gn) (xn ga) (s.sath.lt (hs 0 (by omega)))
  refine hS.mono fun en w' p=>?_
  obtain⟨rfl,q,os,rfl⟩:=p
  have ea:a'=stI names m a:=by
   rw[← hst]
   have:Nat.ble a.length 1=false:=by
    cases hb:Nat.ble a.length 1 with
    | false=>rfl
    | true=>exact absurd (jh hb) hle
   rw[this,hmn]; rfl
  have hst2:(stP (ltN names m) (Du m a)).size=a.length:=by rw[Pa,hsz0]
  have hw':(Go.Sort.grow (Go.Sort.putRow (LU m) (Go.Sort.ahead w q) g 0 (stP (ltN names m) (Du m a))) os).heap[g]? =some (.cells (Go.Sort.putCells (LU m) 0 (stP (ltN names m) (Du m a)) cur) 3 (0,0)):=by
   have hlt:=xn hg
   simp only[Go.Sort.grow,Go.Sort.putRow,Go.Sort.mapBlock,Go.Sort.ahead]
   rw[Array.getElem?_append_left (by simpa using hlt),Array.getElem?_modify,if_pos rfl,hg]
   rfl
  have hkeep:Keep (fun b=>b=g) w (Go.Sort.grow (Go.Sort.putRow (LU m) (Go.Sort.ahead w q) g 0 (stP (ltN names m) (Du m a))) os):=by
   refine⟨rfl,rfl,rfl,?_,fun b hb hne=>?_⟩
   ·simp[Go.Sort.grow,Go.Sort.putRow,Go.Sort.mapBlock,Go.Sort.ahead]
   ·simp only[Go.Sort.grow,Go.Sort.putRow,Go.Sort.mapBlock,Go.Sort.ahead]
    rw[Array.getElem?_append_left (by simpa using hb),Array.getElem?_modify,if_neg (fun e=>hne e.symm)]
  subst hl
  refine⟨_,_,_,rfl,⟨ρ,H,List.prefix_refl _,PH.le.refl H,?_,by simp only[qY,qO]; exact⟨[],rfl,by simp only[zC]⟩⟩,hR⟩
  refine s.upd (k:=k) (b:=g) ho hρ rfl rfl (hh g rfl) hkeep ?_
  have hl2:(xZ .i64 a').length=a.length:=by rw[Ee,ea,Gj]
  refine⟨a'.map fun s=>Value.int .i64 s,⟨by simp[Ee],.inr ⟨g,cap,_,by rw[hl2,hlen],Nat.zero_le _,hw',by rw[hl2,← hlen]; exact hnc,hm,by rw[← hsz]; simp[Go.Sort.putCells],?_⟩⟩,Hq _,?_,fun b hb o'=>hh b hb o'⟩
  ·refine List.ext_getElem? fun j=>?_
   rw[List.getElem?_take,hl2]
   split
   ·rename_i hj
    have hj:j<a.length:=by omega
    have hj2:j<(stP (ltN names m) (Du m a)).size:=by rw[hst2]; exact hj
    simp only[Go.Sort.putCells,Array.toList_mapIdx,List.getElem?_mapIdx,Array.getElem?_toList,hcur j hj,Option.map_some,List.getElem?_map]
    rw[ea]
    simp only[stI,List.getElem?_map,Array.getElem?_toList]
    rw[Array.getElem?_eq_getElem hj2]
    simp[hj2,hst2,hj]
   ·rename_i hj
    rw[List.getElem?_eq_none (by simp[ea,Gj]; omega)]
  ·intro u hu
   obtain⟨x,_,rfl⟩:=List.mem_map.1 hu
   rfl
end W
end
