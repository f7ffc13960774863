/- A logic for code of the model, proved sound, and what functions do that the laws on matrices come to; nothing is asked. Part 1. -/
import Derived.RangeFuncRecord
import Derived.RangeFuncIn
import Derived.RangeFuncLeaves
import Derived.OrdersIn
import Derived.Laws.World
import Derived.Laws.Entries
import Derived.Laws.Cells
import Derived.Laws.CopyRow
import Derived.Laws.MakeOwn
import Derived.Laws.AppendOwn
import Derived.Laws.OwnMore
import Derived.Laws.Slices
import Derived.Below
import Derived.Maps.RangeRun
import Derived.Deep.AppendSrc
import Derived.KernelRfl

set_option linter.unusedVariables false
set_option linter.unusedSimpArgs false
set_option linter.unnecessarySimpa false

namespace Go.Proofs.YtgbhgfdgifkdhaaGreat.X
open Go
abbrev PH:=Nat→Option Obj
namespace PH
def emp : PH:=fun _=>none
def ins (H : PH) (n:Nat) (o:Obj):PH:=fun k=>if k=n then some o else H k
def del (H : PH) (n:Nat):PH:=fun k=>if k=n then none else H k
def un (H M : PH):PH:=fun k=>match H k with | some o=>some o | none=>M k
def Sub (H H' : PH):Prop:=∀ n o,H n=some o→H' n=some o
def In (H : PH) (w:World):Prop:=∀ n o,H n=some o→w.heap[n]?=some o
def Dis (H M : PH):Prop:=∀ n,H n=none∨M n=none
theorem Sub.refl (H : PH):Sub H H:=fun _ _ h=>h
theorem Sub.trans {A B C : PH} (h:Sub A B) (k:Sub B C):Sub A C:=fun n o x=>k n o (h n o x)
theorem In.sub {H H' : PH} {w:World} (h:In H' w) (k:Sub H H'):In H w:=fun n o x=>h n o (k n o x)
theorem In.lt {H : PH} {w:World} (h:In H w) {n:Nat} {o:Obj} (k:H n=some o):n < w.heap.size:=(Array.getElem?_eq_some_iff.1 (h n o k)).1
theorem In.none {H : PH} {w:World} (h:In H w) {n:Nat} (k:w.heap.size≤n):H n=none:=by
  cases e:H n with
  | none=>rfl
  | some o=>have:=h.lt e;omega
theorem Dis.symm {H M : PH} (h:Dis H M):Dis M H:=fun n=>(h n).symm
theorem Dis.emp (H : PH):Dis H emp:=fun _=>.inr rfl
@[simp] theorem ins_same (H : PH) (n:Nat) (o:Obj):ins H n o n=some o:=by simp[ins]
theorem ins_ne (H : PH) {n k:Nat} (o:Obj) (h:k ≠ n):ins H n o k=H k:=by simp[ins,h]
@[simp] theorem del_same (H : PH) (n:Nat):del H n n=none:=by simp[del]
theorem del_ne (H : PH) {n k:Nat} (h:k ≠ n):del H n k=H k:=by simp[del,h]
theorem sub_ins (H : PH) {n:Nat} (o:Obj) (h:H n=none):Sub H (ins H n o):=fun k o' hk=>by
  by_cases e:k=n
  · subst e;rw[h] at hk;cases hk
  · rw[ins_ne _ _ e];exact hk
end PH
open PH
structure Frm (M : PH) (w w':World):Prop where
  os:w'.os=w.os
  tape:w'.tape=w.tape
  output:w'.output=w.output
  size:w.heap.size≤w'.heap.size
  block:∀ n,n < w.heap.size→M n=none→w'.heap[n]?=w.heap[n]?
theorem Frm.refl (M : PH) (w:World):Frm M w w:=⟨rfl,rfl,rfl,Nat.le_refl _,fun _ _ _=>rfl⟩
theorem Frm.mono {M M' : PH} {w w':World} (h:Frm M w w') (k:∀ n,n < w.heap.size→M' n=none→M n=none):Frm M' w w':=
  ⟨h.os,h.tape,h.output,h.size,fun n hn hm=>h.block n hn (k n hn hm)⟩
theorem Frm.trans {M : PH} {a b c:World} (h:Frm M a b) (k:Frm M b c):Frm M a c:=
  ⟨k.os.trans h.os,k.tape.trans h.tape,k.output.trans h.output,Nat.le_trans h.size k.size,fun n hn hm=>(k.block n (Nat.lt_of_lt_of_le hn h.size) hm).trans (h.block n hn hm)⟩
theorem Frm.below {w w' : World} (h:Frm emp w w'):RowKit.Below w.heap.size w w':=⟨h.os,h.tape,h.output,h.size,fun n hn=>h.block n hn rfl⟩
theorem PH.In.frm {H M : PH} {w w':World} (h:In H w) (d:Dis H M) (f:Frm M w w'):In H w':=fun n o hn=>by
  have hm:M n=Option.none:=by
    rcases d n with e | e
    · rw[e] at hn;cases hn
    · exact e
  exact (f.block n (h.lt hn) hm).trans (h n o hn)
structure Post (w : World) (H M:PH) (w':World) (H' M':PH):Prop where
  sub:Sub H H'
  inH:In H' w'
  inM:In M' w'
  dis:Dis H' M'
  old:∀ n,n < w.heap.size→M n=none→H' n=H n∧M' n=none
  frm:Frm M w w'
abbrev wide (r : Option Nat):Fence:={ fn:=fun _=>True,depth:=none,alive:=false,round:=r }
def Ent (P : Program) (f:FuncId):Prop:=∀ args w,(callFunc f args).run P w=.ok (.enter f args) w
@[irreducible] def Cl (P : Program) (f:FuncId) (args:List Value) (H M:PH) (Q:Value→PH→PH→Prop):Prop:=
  Ent P f∧∀ w,In H w→In M w→Dis H M→Calls P f args.toArray w fun e w'=>∃ v H' M',e=.returned v∧Post w H M w' H' M'∧Q v H' M'
@[irreducible] def Yl (P : Program) (l:Nat) (args:List Value) (H M:PH) (Q:Value→PH→PH→Prop):Prop:=
  ∀ w,In H w→In M w→Dis H M→∃ fn tmps assign body,(Instr.yield l args.toArray).run P w=.ok (.round l fn tmps assign body) w ∧
    RoundIn (wide none) 0 P l fn tmps assign body w fun e w'=>∃ v H' M',e=.returned v∧Post w H M w' H' M'∧Q v H' M'
theorem Cl.mono {P : Program} {f:FuncId} {args:List Value} {H M:PH} {Q Q':Value→PH→PH→Prop} (h:Cl P f args H M Q)
    (k:∀ v H' M',Sub H H'→Q v H' M'→Q' v H' M'):Cl P f args H M Q':=by
  unfold Cl at *
  refine⟨h.1,fun w hH hM hd=>(h.2 w hH hM hd).mono ?_⟩
  rintro e w' ⟨v,H',M',he,hp,hq⟩
  exact⟨v,H',M',he,hp,k _ _ _ hp.sub hq⟩
theorem Yl.mono {P : Program} {l:Nat} {args:List Value} {H M:PH} {Q Q':Value→PH→PH→Prop} (h:Yl P l args H M Q)
    (k:∀ v H' M',Sub H H'→Q v H' M'→Q' v H' M'):Yl P l args H M Q':=by
  unfold Yl at *
  intro w hH hM hd
  obtain⟨fn,tmps,as,body,hy,hr⟩:=h w hH hM hd
  refine⟨fn,tmps,as,body,hy,hr.mono ?_⟩
  rintro e w' ⟨v,H',M',he,hp,hq⟩
  exact⟨v,H',M',he,hp,k _ _ _ hp.sub hq⟩
structure Parts (O M R : PH):Prop where
  all:∀ n,O n=un M R n
  dis:Dis M R
theorem Parts.left {O M R : PH} (h:Parts O M R):Sub M O:=fun n o hn=>by rw[h.all n];simp[un,hn]
theorem Parts.right {O M R : PH} (h:Parts O M R):Sub R O:=fun n o hn=>by
  rw[h.all n]
  rcases h.dis n with e | e
  · simp[un,e,hn]
  · rw[e] at hn;cases hn
theorem Parts.emp (O : PH):Parts O emp O:=⟨fun _=>rfl,fun _=>.inl rfl⟩
theorem Parts.non {O M R : PH} (h:Parts O M R) {n:Nat} (k:O n=none):M n=none∧R n=none:=by
  rw[h.all n] at k
  unfold un at k
  split at k
  · cases k
  · rename_i e;exact⟨e,k⟩
theorem Post.frame {w w' : World} {H O M R H' M':PH} (h:Parts O M R) (hO:In O w) (hd:Dis H O) (p:Post w H M w' H' M') :
    Parts (un M' R) M' R∧Post w H O w' H' (un M' R):=by
  have hdMR:Dis M' R:=fun n=>by
    cases e:R n with
    | none=>exact .inr rfl
    | some o=>
      have hM:M n=none:=(h.dis n).resolve_right (by rw[e];simp)
      exact .inl (p.old n ((In.sub hO h.right).lt e) hM).2
  have hR:In R w':=fun n o hn=>by
    have hM:M n=none:=(h.dis n).resolve_right (by rw[hn];simp)
    have:=(In.sub hO h.right)
    exact (p.frm.block n (this.lt hn) hM).trans (this n o hn)
  refine⟨⟨fun _=>rfl,hdMR⟩,p.sub,p.inH,?_,?_,?_,p.frm.mono fun n hn hm=>(h.non hm).1⟩
  · intro n o hn
    unfold un at hn
    split at hn
    · rename_i e;cases hn;exact p.inM n _ e
    · exact hR n o hn
  · intro n
    rcases p.dis n with e | e
    · exact .inl e
    · cases er:R n with
      | none=>exact .inr (by simp[un,e,er])
      | some o=>
        have hM:M n=none:=(h.dis n).resolve_right (by rw[er];simp)
        have hlt:=(In.sub hO h.right).lt er
        refine .inl ?_
        rw[(p.old n hlt hM).1]
        rcases hd n with x | x
        · exact x
        · rw[h.right n o er] at x;cases x
  · intro n hn ho
    obtain⟨h1,h2⟩:=h.non ho
    obtain⟨h3,h4⟩:=p.old n hn h1
    exact⟨h3,by simp[un,h4,h2]⟩
theorem Cl.frame {P : Program} {f:FuncId} {args:List Value} {H O M R:PH} {Q:Value→PH→PH→Prop} (hp:Parts O M R) (h:Cl P f args H M Q) :
    Cl P f args H O fun v H' O'=>∃ M',Parts O' M' R∧Q v H' M':=by
  unfold Cl at *
  refine⟨h.1,fun w hH hO hd=>?_⟩
  refine (h.2 w hH (In.sub hO hp.left) (fun n=>?_)).mono ?_
  · rcases hd n with e | e
    · exact .inl e
    · exact .inr (hp.non e).1
  · rintro e w' ⟨v,H',M',he,p,hq⟩
    obtain⟨h1,h2⟩:=Post.frame hp hO hd p
    exact⟨v,H',un M' R,he,h2,M',h1,hq⟩
theorem Cl.pure {P : Program} {f:FuncId} {args:List Value} {H O:PH} {Q:Value→PH→PH→Prop} (h:Cl P f args H emp Q) :
    Cl P f args H O fun v H' O'=>∃ M',Parts O' M' O∧Q v H' M':=h.frame (Parts.emp O)
theorem Cl.drop {P : Program} {f:FuncId} {args:List Value} {H M:PH} {Q:Value→PH→PH→Prop} (h:Cl P f args H M fun v H' M'=>∃ M'',Sub M'' M'∧Q v H' M'') :
    Cl P f args H M Q:=by
  unfold Cl at *
  refine⟨h.1,fun w hH hM hd=>(h.2 w hH hM hd).mono ?_⟩
  rintro e w' ⟨v,H',M',he,p,M'',hs,hq⟩
  have key:∀ n,M' n=none→M'' n=none:=fun n hn=>by
    cases e':M'' n with
    | none=>rfl
    | some o=>rw[hs n o e'] at hn;cases hn
  exact⟨v,H',M'',he,⟨p.sub,p.inH,In.sub p.inM hs,fun n=>(p.dis n).imp id (key n),fun n hn hm=>⟨(p.old n hn hm).1,key n (p.old n hn hm).2⟩,p.frm⟩,hq⟩
end Go.Proofs.YtgbhgfdgifkdhaaGreat.X

namespace Go.Proofs.YtgbhgfdgifkdhaaGreat.X
open Go PH
inductive En where
  | any
  | v (x:Value)
  | l (x:Value) (i:Nat)
  deriving Inhabited
structure B where
  n:Nat
  cells:List Value
  t:TypeId
  pub:Bool
structure S where
  env:List En
  loc:List (Option B)
  H:PH
  O:PH
abbrev B.obj (b : B):Obj:=.cells b.cells.toArray b.t (0,0)
def Holds (loc : List (Option B)):En→Option Value→Prop
  | .any,_=>True
  | .v x,y=>y=some x
  | .l x i,y=>y=some x∧(loc[i]?=some none∨∃ b,loc[i]?=some (some b)∧((∃ off,x=.pointer (some ⟨b.n,off,none⟩))∨∃ off len cap,x=.slice (some ⟨b.n,off,none⟩) len cap))
structure Fr where
  w:World
  H:PH
  M:PH
  r:Option Nat
def Mark (s : S) (φ:Fr) (w:World) (d:Deferred):Prop:=
  ∃ r,d={ target:=.collected r,args:=#[] }∧w.heap[r]?=some (.deferred (some []))∧φ.w.heap.size≤r∧s.H r=none∧s.O r=none∧∀ (i:Nat) (b:B),s.loc[i]?=some (some b)→b.n ≠ r
structure Real (φ : Fr) (s:S) (a:Act) (w:World):Prop where
  size:a.tmps.size=s.env.length
  env:∀ (t:Nat) (e:En),s.env[t]?=some e→Holds s.loc e a.tmps[t]?
  loc:∀ (i:Nat) (b:B),s.loc[i]?=some (some b)→w.heap[b.n]?=some b.obj∧s.O b.n=none∧(b.pub=true→s.H b.n=some b.obj)∧(b.pub=false→s.H b.n=none∧(φ.w.heap.size≤b.n∨φ.M b.n ≠ none))
  apart:∀ (i j:Nat) (b c:B),s.loc[i]?=some (some b)→s.loc[j]?=some (some c)→b.n=c.n→i=j
  inH:In s.H w
  inO:In s.O w
  dis:Dis s.H s.O
  sub:Sub φ.H s.H
  old:∀ n,n < φ.w.heap.size→φ.M n=none→s.H n=φ.H n∧s.O n=none
  frm:Frm φ.M φ.w w
  uniq:a.defers.Pairwise fun d e=>∀ q,d={ target:=.collected q,args:=#[] }→e ≠ { target:=.collected q,args:=#[] }
  marks:∀ d∈a.defers,Mark s φ w d
theorem Holds.mono {loc loc' : List (Option B)} (h:∀ (i:Nat) (x:Option B),loc[i]?=some x→loc'[i]?=some none∨∃ b b':B,x=some b∧loc'[i]?=some (some b')∧b'.n=b.n):∀ {e:En} {y:Option Value},Holds loc e y→Holds loc' e y
  | .any,_,_=>trivial
  | .v _,_,k=>k
  | .l _ i,_,k=>by
    obtain⟨hy,hk⟩:=k
    refine⟨hy,?_⟩
    rcases hk with hk | ⟨b,hb,hx⟩
    · rcases h i _ hk with h | ⟨b,_,h,_⟩
      · exact .inl h
      · cases h
    · rcases h i _ hb with h | ⟨b1,b',h,hb',hn⟩
      · exact .inl h
      · cases h
        exact .inr ⟨b',hb',by rw[hn];exact hx⟩
def getK {α : Type}:List α→Nat→(α→Prop)→Prop
  | [],_,_=>False
  | x::_,0,K=>K x
  | _::l,n+1,K=>getK l n K
def setK {α : Type}:List α→Nat→α→(List α→Prop)→Prop
  | [],_,_,_=>False
  | _::l,0,x,K=>K (x::l)
  | y::l,n+1,x,K=>setK l n x fun l'=>K (y::l')
def appK {α : Type}:List α→List α→(List α→Prop)→Prop
  | [],r,K=>K r
  | x::l,r,K=>appK l r fun l'=>K (x::l')
def takeK {α : Type}:List α→Nat→(List α→Prop)→Prop
  | _,0,K=>K []
  | [],_+1,_=>False
  | x::l,n+1,K=>takeK l n fun l'=>K (x::l')
def dropK {α : Type}:List α→Nat→(List α→Prop)→Prop
  | l,0,K=>K l
  | [],_+1,_=>False
  | _::l,n+1,K=>dropK l n K
def lenK {α : Type}:List α→Nat→(Nat→Prop)→Prop
  | [],n,K=>K n
  | _::l,n,K=>lenK l (n+1) K
def overK {α : Type}:List α→Nat→List α→(List α→Prop)→Prop
  | l,0,[],K=>K l
  | _::l,0,x::xs,K=>overK l 0 xs fun l'=>K (x::l')
  | y::l,n+1,xs,K=>overK l n xs fun l'=>K (y::l')
  | [],_,_,_=>False
def andK (p : Prop) [Decidable p] (K:Prop):Prop:=match decide p with
  | true=>K
  | false=>False
theorem andK_iff {p : Prop} [Decidable p] {K:Prop}:andK p K ↔ p∧K:=by
  unfold andK
  by_cases h:p
  · rw[decide_eq_true h];simp[h]
  · rw[decide_eq_false h];simp[h]
theorem dec_intro {p : Prop} [Decidable p] {K:Prop} (h:p) (k:K):andK p K:=andK_iff.2 ⟨h,k⟩
theorem if_intro {b : Bool} {A B:Prop} (h:b=true→A) (k:b=false→B):(match (generalizing:=false) b with | true=>A | false=>B):=by
  cases b
  · exact k rfl
  · exact h rfl
def noneK {α : Type}:Option α→Prop→Prop
  | none,K=>K
  | some _,_=>False
theorem noneK_iff {α : Type} {x:Option α} {K:Prop}:noneK x K ↔ x=none∧K:=by cases x<;>simp[noneK]
theorem getK_iff {α : Type} {l:List α} {n:Nat} {K:α→Prop}:getK l n K ↔ ∃ x,l[n]?=some x∧K x:=by
  induction l generalizing n with
  | nil=>simp[getK]
  | cons y l ih=>cases n<;>simp[getK,ih]
theorem setK_iff {α : Type} {l:List α} {n:Nat} {x:α} {K:List α→Prop}:setK l n x K ↔ n < l.length∧K (l.set n x):=by
  induction l generalizing n K with
  | nil=>simp[setK]
  | cons y l ih=>cases n<;>simp[setK,ih]
theorem appK_iff {α : Type} {l r:List α} {K:List α→Prop}:appK l r K ↔ K (l++r):=by
  induction l generalizing K with
  | nil=>simp[appK]
  | cons y l ih=>simp[appK,ih]
theorem takeK_iff {α : Type} {l:List α} {n:Nat} {K:List α→Prop}:takeK l n K ↔ n≤l.length∧K (l.take n):=by
  induction l generalizing n K with
  | nil=>cases n<;>simp[takeK]
  | cons y l ih=>cases n<;>simp[takeK,ih]
theorem dropK_iff {α : Type} {l:List α} {n:Nat} {K:List α→Prop}:dropK l n K ↔ n≤l.length∧K (l.drop n):=by
  induction l generalizing n K with
  | nil=>cases n<;>simp[dropK]
  | cons y l ih=>cases n<;>simp[dropK,ih]
theorem lenK_iff {α : Type} {l:List α} {n:Nat} {K:Nat→Prop}:lenK l n K ↔ K (n+l.length):=by
  induction l generalizing n K with
  | nil=>simp[lenK]
  | cons y l ih=>simp[lenK,ih,Nat.add_assoc,Nat.add_comm 1]
theorem overK_iff {α : Type} {l xs:List α} {n:Nat} {K:List α→Prop}:overK l n xs K ↔ n+xs.length≤l.length∧K (l.take n++xs++l.drop (n+xs.length)):=by
  induction l generalizing n xs K with
  | nil=>cases n<;>cases xs<;>simp[overK]
  | cons y l ih=>
    cases n with
    | zero=>
      cases xs with
      | nil=>simp[overK]
      | cons x xs=>simp[overK,ih]
    | succ n=>
      have e:n+1+xs.length=n+xs.length+1:=by omega
      simp[overK,ih,e]
end Go.Proofs.YtgbhgfdgifkdhaaGreat.X

namespace Go.Proofs.YtgbhgfdgifkdhaaGreat.X
open Go PH
inductive Ty where
  | int (k:IntKind) | bool | str | slice (e:TypeId) | array (n:Nat) (e:TypeId)
  | struct (fs:List (Nat × TypeId)) | ptr (e:TypeId) | map (k e:TypeId) | func | other
  deriving Inhabited
inductive CK where
  | int (k:IntKind) | bool | str
  deriving Inhabited
structure TI where
  ty:Ty
  size:Nat
  bytes:Nat
  zero:List Value
  flat:List CK
  deriving Inhabited
abbrev TI.no : TI:=⟨.other,0,0,[],[]⟩
inductive Pol where
  | loc | imm | own
def evK (env : List En) (x:Operand) (K:En→Prop):Prop:=
  match x with
  | .tmp t=>getK env t fun e=>match e with
    | .any=>False
    | .v x=>K (.v x)
    | .l x i=>K (.l x i)
  | .const v=>K (.v v)
  | .global g=>K (.v (.pointer (some ⟨g,0,none⟩)))
  | .func f=>K (.v (.func (.func f) #[] #[]))
def En.valK (e : En) (K:Value→Prop):Prop:=
  match e with
  | .any=>False
  | .v x=>K x
  | .l x _=>K x
def evsK (env : List En):List Operand→(List Value→Prop)→Prop
  | [],K=>K []
  | x::l,K=>evK env x fun e=>e.valK fun v=>evsK env l fun vs=>K (v::vs)
def oneK : List Value→Prop→Prop
  | [],K=>K
  | v::l,K=>match v with
    | .agg _=>False
    | .tuple _=>False
    | _=>oneK l K
def cellsK (v : Value) (K:List Value→Prop):Prop:=
  match v with
  | .agg ⟨cs⟩=>oneK cs (K cs)
  | .tuple _=>False
  | v=>K [v]
def putK (env : List En) (d:Option Tmp) (e:En) (K:List En→Prop):Prop:=
  match d with
  | some d=>setK env d e K
  | none=>K env
section
variable (Γ : TypeId → TI)
def tyK (t : TypeId) (K:Ty→Nat→Nat→List Value→List CK→Prop):Prop:=match Γ t with | ⟨ty,sz,by_,z,fl⟩=>K ty sz by_ z fl
def mkK (ty : Ty) (cs:List Value) (K:Value→Prop):Prop:=
  match ty with
  | .struct _=>K (.agg ⟨cs⟩)
  | .array _ _=>K (.agg ⟨cs⟩)
  | .other=>False
  | _=>match cs with
    | [v]=>K v
    | _=>False
def Rd (H O : PH) (a:Addr) (sz:Nat) (cs:List Value):Prop:=
  a.spot=none∧cs.length=sz∧∃ c t fr,(H a.block=some (.cells c t fr)∨O a.block=some (.cells c t fr))∧(c.toList.drop a.off).take sz=cs
def newK (p : Pol) (cs:List Value) (t:TypeId) (s:S) (K:S→(Value→En)→Nat→Prop):Prop:=
  match s with
  | ⟨env,loc,H,O⟩=>
    match p with
    | .loc=>∀ b:Nat,lenK loc 0 fun i=>appK loc [some ⟨b,cs,t,false⟩] fun loc=>K ⟨env,loc,H,O⟩ (fun v=>.l v i) b
    | .imm=>∀ b:Nat,H b=none→O b=none→lenK loc 0 fun i=>appK loc [some ⟨b,cs,t,true⟩] fun loc=>K ⟨env,loc,ins H b (.cells ⟨cs⟩ t (0,0)),O⟩ (fun v=>.l v i) b
    | .own=>∀ b:Nat,H b=none→O b=none→K ⟨env,loc,H,ins O b (.cells ⟨cs⟩ t (0,0))⟩ (fun v=>.v v) b
def intK (op : BinOp) (k:IntKind) (a b:Int) (K:Value→Prop):Prop:=
  match op with
  | .add=>K (.int k (k.wrap (a+b)))
  | .sub=>K (.int k (k.wrap (a - b)))
  | .mul=>K (.int k (k.wrap (a*b)))
  | .quo=>andK (b ≠ 0) (K (.int k (k.wrap (a.tdiv b))))
  | .rem=>andK (b ≠ 0) (K (.int k (a.tmod b)))
  | .and=>K (.int k (k.wrap (BitVec.ofInt k.bits a &&& BitVec.ofInt k.bits b).toNat))
  | .or=>K (.int k (k.wrap (BitVec.ofInt k.bits a ||| BitVec.ofInt k.bits b).toNat))
  | .xor=>K (.int k (k.wrap (BitVec.ofInt k.bits a ^^^ BitVec.ofInt k.bits b).toNat))
  | .andNot=>K (.int k (k.wrap (BitVec.ofInt k.bits a &&& ~~~ BitVec.ofInt k.bits b).toNat))
  | .eql=>K (.bool (a == b))
  | .neq=>K (.bool (a != b))
  | .lss=>K (.bool (decide (a < b)))
  | .leq=>K (.bool (decide (a≤b)))
  | .gtr=>K (.bool (decide (a > b)))
  | .geq=>K (.bool (decide (a ≥ b)))
  | _=>False
def eqCells : List Value→List Value→Bool
  | .int _ a::l,.int _ b::m=>(a == b) && eqCells l m
  | .bool a::l,.bool b::m=>(a == b) && eqCells l m
  | .string a::l,.string b::m=>(a == b) && eqCells l m
  | [],[]=>true
  | _,_=>false
def fitsK : List CK→List Value→Prop→Prop
  | [],[],K=>K
  | .int k::ks,.int j _::l,K=>andK (k=j) (fitsK ks l K)
  | .bool::ks,.bool _::l,K=>fitsK ks l K
  | .str::ks,.string _::l,K=>fitsK ks l K
  | _,_,_=>False
def binK (op : BinOp) (t:TypeId) (x y:Value) (K:Value→Prop):Prop:=
  match x with
  | .int k a=>match y with
    | .int j b=>match op with
      | .shl=>andK (0≤b) <| K (.int k (k.wrap (a*2 ^ (min b.toNat k.bits))))
      | .shr=>andK (0≤b) <| K (.int k (a.fdiv (2 ^ (min b.toNat k.bits))))
      | op=>andK (k=j) <| intK op k a b K
    | _=>False
  | .bool a=>match y with
    | .bool b=>tyK Γ t fun ty _ _ _ _=>match ty with
      | .bool=>match op with
        | .eql=>K (.bool (a == b))
        | .neq=>K (.bool (!(a == b)))
        | _=>False
      | _=>False
    | _=>False
  | .slice a _ _=>match y with
    | .slice none _ _=>tyK Γ t fun ty _ _ _ _=>match ty with
      | .slice _=>match op with
        | .eql=>K (.bool a.isNone)
        | .neq=>K (.bool (!a.isNone))
        | _=>False
      | _=>False
    | _=>False
  | .agg ⟨xs⟩=>match y with
    | .agg ⟨ys⟩=>tyK Γ t fun ty _ _ _ fl=>match ty with
      | .other=>False
      | _=>match fl with
        | []=>False
        | fl=>fitsK fl xs (fitsK fl ys (match op with
          | .eql=>K (.bool (eqCells xs ys))
          | .neq=>K (.bool (!eqCells xs ys))
          | _=>False))
    | _=>False
  | _=>False
def fillK (env : List En) (place:Nat→(Nat→Nat→Prop)→Prop):List Value→List (Nat × Operand)→(List Value→Prop)→Prop
  | cs,[],K=>K cs
  | cs,(i,x)::ps,K=>place i fun off sz=>evK env x fun e=>e.valK fun v=>cellsK v fun vs=>lenK vs 0 fun m=>andK (m=sz) <| overK cs off vs fun cs=>fillK env place cs ps K
def repK : Nat→List Value→(List Value→Prop)→Prop
  | 0,_,K=>K []
  | n+1,z,K=>repK n z fun l=>appK z l K
def boundK (env : List En) (x:Option Operand) (d:Int) (K:Int→Prop):Prop:=
  match x with
  | none=>K d
  | some x=>evK env x fun e=>e.valK fun v=>match v with
    | .int _ n=>K n
    | _=>False
def callK (P : Program) (f:Value) (args:List Value) (H O:PH) (K:Value→PH→PH→Prop):Prop:=
  match f with
  | .func fn ⟨first⟩ ⟨cap⟩=>appK first args fun vs=>match fn with
    | .func g=>appK vs cap fun vs=>Cl P g vs H O K
    | .yield l=>Yl P l vs H O K
    | _=>False
  | _=>False
@[irreducible] def appendK (H O : PH) (et:TypeId) (sz by_:Nat) (z:List Value) (s x:Value) (K:Value→PH→Prop):Prop:=
  ∃ base sLen sCap src n c news,s=.slice base sLen sCap∧x=.slice src n c∧news.length=n*sz∧(∀ v∈news,v.oneCell'=true) ∧
    (src=none→n=0)∧(∀ a,src=some a→0 < n→Rd H O a (n*sz) news)∧((sLen+n)*(by_+1)≤140737488355328)∧z.length=sz ∧
    (n=0→sLen≤sCap→K (.slice base sLen sCap) O) ∧
    (0 < n→sLen+n≤sCap→∃ b off cs bt,base=some ⟨b,off,none⟩∧O b=some (.cells ⟨cs⟩ bt (0,0))∧off+sLen*sz+n*sz≤cs.length ∧
      K (.slice base (sLen+n) sCap) (ins O b (.cells ⟨cs.take (off+sLen*sz)++news++cs.drop (off+sLen*sz+n*sz)⟩ bt (0,0)))) ∧
    (sCap < sLen+n→∃ olds,olds.length=sLen*sz∧(base=none→sLen=0)∧(∀ a,base=some a→Rd H O a (sLen*sz) olds) ∧
      ∀ b cap,H b=none→O b=none→sLen+n≤cap→K (.slice (some ⟨b,0,none⟩) (sLen+n) cap) (ins O b (.cells ⟨olds++news++(List.replicate (cap - (sLen+n)) z).flatten⟩ et (0,0))))
@[irreducible] def copyK (H O : PH) (sz:Nat) (s x:Value) (K:Value→PH→Prop):Prop:=
  ∃ base sLen sCap src n c cells,s=.slice base sLen sCap∧x=.slice src n c∧cells.length=min n sLen*sz∧(∀ v∈cells,v.oneCell'=true) ∧
    (src=none→n=0)∧(∀ a,src=some a→0 < min n sLen→Rd H O a (min n sLen*sz) cells) ∧
    (base=none→min n sLen=0∧K (.int .i64 (min n sLen:Nat)) O) ∧
    (∀ a,base=some a→∃ b off cs bt,a=⟨b,off,none⟩∧O b=some (.cells ⟨cs⟩ bt (0,0))∧off+min n sLen*sz≤cs.length ∧
      K (.int .i64 (min n sLen:Nat)) (ins O b (.cells ⟨cs.take off++cells++cs.drop (off+min n sLen*sz)⟩ bt (0,0))))
@[irreducible] def clearK (O : PH) (sz:Nat) (z:List Value) (s:Value) (K:PH→Prop):Prop:=
  ∃ base sLen sCap,s=.slice base sLen sCap∧z.length=sz∧(∀ v∈z,v.oneCell'=true)∧(base=none∨sLen=0→K O) ∧
    (∀ a,base=some a→0 < sLen→∃ b off cs bt,a=⟨b,off,none⟩∧O b=some (.cells ⟨cs⟩ bt (0,0))∧off+sLen*sz≤cs.length ∧
      K (ins O b (.cells ⟨cs.take off++(List.replicate sLen z).flatten++cs.drop (off+sLen*sz)⟩ bt (0,0))))
@[irreducible] def lookK (H O : PH) (k:IntKind) (x key:Value) (K:Option Value→Prop):Prop:=
  ∃ j n,key=.int j n∧((x=.map none∧K none)∨∃ b es clk r,x=.map (some b)∧(H b=some (.map es clk)∨O b=some (.map es clk))∧Instr.findNow (.int k) key es.toList 0=some r∧K (r.map (·.2)))
@[irreducible] def enterK (O : PH) (k:IntKind) (m key val:Value) (K:PH→Prop):Prop:=
  (∃ j n b es clk,key=.int j n∧m=.map (some b)∧O b=some (.map es clk)∧Instr.findNow (.int k) key es.toList 0=some none∧K (ins O b (.map (es.push { key,val,born:=clk }) (clk+1)))) ∨
  (∃ j n b es clk i e,key=.int j n∧m=.map (some b)∧O b=some (.map es clk)∧Instr.findNow (.int k) key es.toList 0=some (some (i,e))∧(es[i]?).map (·.key)=some key∧K (ins O b (.map (es.modify i fun e=>{ e with key,val:=val }) clk)))
@[irreducible] def rangeK (H O : PH) (x:Value) (K:PH→Value→Prop):Prop:=
  ∃ b es clk,x=.map (some b)∧(H b=some (.map es clk)∨O b=some (.map es clk))∧∀ r:Nat,H r=none→O r=none→K (ins O r (.mapIter (some b) clk #[] clk)) (.pointer (some ⟨r,0,none⟩))
@[irreducible] def nextK (H O : PH) (it:Value) (K:PH→Value→Prop):Prop:=
  ∃ (r b since c0:Nat) (seen:Array Nat) (es:Array MapEntry) (clk:Nat),it=.pointer (some ⟨r,0,none⟩)∧O r=some (.mapIter (some b) since seen c0)∧(H b=some (.map es clk)∨O b=some (.map es clk))∧(∀ x∈es.toList,x.born < since)∧since≤c0 ∧
    ((leftOf es seen).size=0→K O (.tuple ⟨[.bool false]⟩))∧∀ e∈(leftOf es seen).toList,K (ins O r (.mapIter (some b) since (seen.push e.born) clk)) (.tuple ⟨[.bool true,e.key,e.val]⟩)
@[irreducible] def itemK (H O : PH) (it:Value) (K:Value→Prop):Prop:=
  ∃ (r b since:Nat) (seen:Array Nat) (es:Array MapEntry) (clk:Nat) (e:MapEntry),it=.pointer (some ⟨r,0,none⟩)∧O r=some (.mapIter (some b) since (seen.push e.born) clk)∧(H b=some (.map es clk)∨O b=some (.map es clk))∧e∈es.toList∧(es.toList.map (·.born)).Nodup∧K (.tuple ⟨[e.key,e.val]⟩)
def opK (P : Program) (pol:Pol) (o:Op) (s:S) (K:S→En→Prop):Prop:=
  match s with
  | ⟨env,loc,H,O⟩=>
  match o with
  | .move x=>evK env x fun e=>K ⟨env,loc,H,O⟩ e
  | .assign x=>evK env x fun e=>K ⟨env,loc,H,O⟩ e
  | .pick c a b=>evK env c fun e=>e.valK fun v=>match v with
    | .bool c=>match c with
      | true=>evK env a fun e=>K ⟨env,loc,H,O⟩ e
      | false=>evK env b fun e=>K ⟨env,loc,H,O⟩ e
    | _=>False
  | .alloc t=>tyK Γ t fun ty _ _ z _=>match ty with
    | .other=>False
    | _=>oneK z (newK pol z t ⟨env,loc,H,O⟩ fun s f b=>K s (f (.pointer (some ⟨b,0,none⟩))))
  | .box t x=>evK env x fun e=>e.valK fun v=>cellsK v fun cs=>newK pol cs t ⟨env,loc,H,O⟩ fun s f b=>K s (f (.pointer (some ⟨b,0,none⟩)))
  | .build t ⟨ps⟩=>tyK Γ t fun ty _ _ z _=>match ty with
    | .struct fs=>fillK env (fun i k=>getK fs i fun p=>match p with | (off,ft)=>tyK Γ ft fun ty sz _ _ _=>match ty with | .other=>False | _=>k off sz) z ps fun cs=>K ⟨env,loc,H,O⟩ (.v (.agg ⟨cs⟩))
    | .array _ et=>tyK Γ et fun ty sz _ _ _=>match ty with | .other=>False | _=>fillK env (fun i k=>k (i*sz) sz) z ps fun cs=>K ⟨env,loc,H,O⟩ (.v (.agg ⟨cs⟩))
    | _=>False
  | .buildSlice t n ⟨ps⟩=>tyK Γ t fun ty _ _ _ _=>match ty with
    | .slice et=>tyK Γ et fun ty sz _ z _=>match ty with
      | .other=>False
      | _=>andK (n≤100000) <| andK (sz≤100) <| repK n z fun cs=>fillK env (fun i k=>k (i*sz) sz) cs ps fun cs=>newK pol cs et ⟨env,loc,H,O⟩ fun s f b=>K s (f (.slice (some ⟨b,0,none⟩) n n))
    | _=>False
  | .load t x=>evK env x fun e=>match e with
    | .any=>False
    | .l x i=>match x with
      | .pointer (some ⟨_,off,_⟩)=>getK loc i fun b=>match b with
        | none=>False
        | some ⟨_,cs,_,_⟩=>tyK Γ t fun ty sz _ _ _=>dropK cs off fun cs=>takeK cs sz fun cs=>mkK ty cs fun v=>K ⟨env,loc,H,O⟩ (.v v)
      | _=>False
    | .v x=>match x with
      | .pointer (some a)=>tyK Γ t fun ty sz _ _ _=>∃ cs,Rd H O a sz cs∧mkK ty cs fun v=>K ⟨env,loc,H,O⟩ (.v v)
      | _=>False
  | .store t x y=>evK env x fun e=>evK env y fun f=>f.valK fun v=>cellsK v fun vs=>tyK Γ t fun ty sz _ _ _=>match ty with
    | .other=>False
    | _=>match e with
      | .any=>False
      | .l x i=>match x with
        | .pointer (some ⟨_,off,_⟩)=>getK loc i fun b=>match b with
          | none=>False
          | some ⟨n,cs,bt,pub⟩=>match pub with
            | true=>False
            | false=>lenK vs 0 fun m=>andK (m=sz) <| overK cs off vs fun cs=>setK loc i (some ⟨n,cs,bt,false⟩) fun loc=>K ⟨env,loc,H,O⟩ (.v undef)
        | _=>False
      | .v x=>match x with
        | .pointer (some ⟨b,off,sp⟩)=>noneK sp <| lenK vs 0 fun m=>andK (m=sz) <| ∃ cs bt,O b=some (.cells ⟨cs⟩ bt (0,0))∧off+vs.length≤cs.length ∧
            K ⟨env,loc,H,ins O b (.cells ⟨cs.take off++vs++cs.drop (off+vs.length)⟩ bt (0,0))⟩ (.v undef)
        | _=>False
  | .nilCheck x=>evK env x fun e=>match e with
    | .any=>False
    | .l x i=>match x with
      | .pointer (some a)=>K ⟨env,loc,H,O⟩ (.l (.pointer (some a)) i)
      | _=>False
    | .v x=>match x with
      | .pointer (some a)=>K ⟨env,loc,H,O⟩ (.v (.pointer (some a)))
      | _=>False
  | .binOp op t x y _=>evK env x fun e=>e.valK fun x=>evK env y fun e=>e.valK fun y=>binK Γ op t x y fun v=>K ⟨env,loc,H,O⟩ (.v v)
  | .unOp op _ x=>evK env x fun e=>e.valK fun x=>match op with
    | .not=>match x with
      | .bool b=>K ⟨env,loc,H,O⟩ (.v (.bool (!b)))
      | _=>False
    | .neg=>match x with
      | .int k n=>K ⟨env,loc,H,O⟩ (.v (.int k (k.wrap (0 - n))))
      | _=>False
    | _=>False
  | .convert ts td x=>evK env x fun e=>e.valK fun x=>match x with
    | .int _ n=>tyK Γ ts fun ty _ _ _ _=>match ty with
      | .other=>False
      | _=>tyK Γ td fun ty _ _ _ _=>match ty with
        | .int k=>K ⟨env,loc,H,O⟩ (.v (.int k (k.wrap n)))
        | _=>False
    | _=>False
  | .makeFunc fn ⟨first⟩ ⟨cap⟩=>evsK env first fun f1=>evsK env cap fun c1=>K ⟨env,loc,H,O⟩ (.v (.func fn ⟨f1⟩ ⟨c1⟩))
  | .makeMap _ none=>∀ b:Nat,H b=none→O b=none→K ⟨env,loc,H,ins O b (.map #[] 0)⟩ (.v (.map (some b)))
  | .makeSlice t l c=>tyK Γ t fun ty _ _ _ _=>match ty with
    | .slice et=>tyK Γ et fun ty sz by_ z _=>match ty with
      | .other=>False
      | _=>evK env l fun e=>e.valK fun l=>evK env c fun e=>e.valK fun c=>match l with
        | .int .i64 n=>match c with
          | .int .i64 m=>andK (0≤n) <| andK (n≤m) <| andK (m≤281474976710656) <| andK (m*by_≤281474976710656) <| lenK z 0 fun zl=>andK (zl=sz) <| andK (sz ≠ 0) <| ∀ b:Nat,H b=none→O b=none →
              K ⟨env,loc,H,ins O b (.cells ⟨(List.replicate m.toNat z).flatten⟩ et (0,0))⟩ (.v (.slice (some ⟨b,0,none⟩) n.toNat m.toNat))
          | _=>False
        | _=>False
    | _=>False
  | .slice t x lo hi none=>evK env x fun e=>tyK Γ t fun ty _ _ _ _=>e.valK fun v=>match ty with
    | .slice et=>tyK Γ et fun ty sz _ _ _=>match ty with
      | .other=>False
      | _=>match v with
        | .slice a len cap=>
          boundK env hi len fun h=>boundK env lo 0 fun l=>
          andK (0≤l) <| andK (l≤h) <| andK (h≤(cap:Int)) <| K ⟨env,loc,H,O⟩ (.v (.slice (if cap=l.toNat then a else a.map (·.add (l.toNat*sz))) (h.toNat - l.toNat) (cap - l.toNat)))
        | _=>False
    | .array n et=>match lo with
      | none=>match hi with
        | none=>tyK Γ et fun ty _ _ _ _=>match ty with
          | .other=>False
          | _=>match e with
            | .l v i=>match v with
              | .pointer (some a)=>andK (n ≠ 0) <| K ⟨env,loc,H,O⟩ (.l (.slice (some a) n n) i)
              | _=>False
            | .v v=>match v with
              | .pointer (some a)=>andK (n ≠ 0) <| K ⟨env,loc,H,O⟩ (.v (.slice (some a) n n))
              | _=>False
            | _=>False
        | some y=>tyK Γ et fun ty _ _ _ _=>match ty with
          | .other=>False
          | _=>match e with
            | .l v i=>match v with
              | .pointer (some a)=>boundK env (some y) 0 fun h=>andK (0≤h) <| andK (h≤(n:Int)) <| andK (n ≠ 0) <| K ⟨env,loc,H,O⟩ (.l (.slice (some a) h.toNat n) i)
              | _=>False
            | .v v=>match v with
              | .pointer (some a)=>boundK env (some y) 0 fun h=>andK (0≤h) <| andK (h≤(n:Int)) <| andK (n ≠ 0) <| K ⟨env,loc,H,O⟩ (.v (.slice (some a) h.toNat n))
              | _=>False
            | _=>False
      | _=>False
    | _=>False
  | .fieldAddr t x f=>evK env x fun e=>tyK Γ t fun ty _ _ _ _=>match ty with
    | .struct fs=>getK fs f fun p=>match p with
      | (fo,ft)=>tyK Γ ft fun ty sz _ _ _=>match ty with
        | .other=>False
        | _=>andK (sz ≠ 0) <| match e with
          | .any=>False
          | .l x i=>match x with
            | .pointer (some ⟨b,off,sp⟩)=>noneK sp <| K ⟨env,loc,H,O⟩ (.l (.pointer (some ⟨b,off+fo,none⟩)) i)
            | _=>False
          | .v x=>match x with
            | .pointer (some ⟨b,off,sp⟩)=>noneK sp <| K ⟨env,loc,H,O⟩ (.v (.pointer (some ⟨b,off+fo,none⟩)))
            | _=>False
    | _=>False
  | .field t x f=>evK env x fun e=>e.valK fun v=>tyK Γ t fun ty _ _ _ _=>match ty with
    | .struct fs=>getK fs f fun p=>match p with
      | (fo,ft)=>tyK Γ ft fun ty sz _ _ _=>match v with
        | .agg ⟨cs⟩=>dropK cs fo fun cs=>takeK cs sz fun cs=>mkK ty cs fun v=>K ⟨env,loc,H,O⟩ (.v v)
        | _=>False
    | _=>False
  | .indexAddr t x i=>evK env x fun e=>evK env i fun f=>f.valK fun i=>tyK Γ t fun ty _ _ _ _=>match i with
    | .int _ i=>match ty with
      | .slice et=>tyK Γ et fun ty sz _ _ _=>match ty with
        | .other=>False
        | _=>match e with
          | .any=>False
          | .l x j=>match x with
            | .slice (some ⟨b,off,sp⟩) len _=>noneK sp <| andK (0≤i) <| andK (i < (len:Int)) <| K ⟨env,loc,H,O⟩ (.l (.pointer (some ⟨b,off+i.toNat*sz,none⟩)) j)
            | _=>False
          | .v x=>match x with
            | .slice (some ⟨b,off,sp⟩) len _=>noneK sp <| andK (0≤i) <| andK (i < (len:Int)) <| K ⟨env,loc,H,O⟩ (.v (.pointer (some ⟨b,off+i.toNat*sz,none⟩)))
            | _=>False
      | .array n et=>tyK Γ et fun ty sz _ _ _=>match ty with
        | .other=>False
        | _=>match e with
          | .any=>False
          | .l x j=>match x with
            | .pointer (some ⟨b,off,sp⟩)=>noneK sp <| andK (0≤i) <| andK (i < (n:Int)) <| K ⟨env,loc,H,O⟩ (.l (.pointer (some ⟨b,off+i.toNat*sz,none⟩)) j)
            | _=>False
          | .v x=>match x with
            | .pointer (some ⟨b,off,sp⟩)=>noneK sp <| andK (0≤i) <| andK (i < (n:Int)) <| K ⟨env,loc,H,O⟩ (.v (.pointer (some ⟨b,off+i.toNat*sz,none⟩)))
            | _=>False
      | _=>False
    | _=>False
  | .index t x i=>evK env x fun e=>e.valK fun x=>evK env i fun f=>f.valK fun i=>tyK Γ t fun ty _ _ _ _=>match i with
    | .int _ i=>match ty with
      | .array n et=>tyK Γ et fun ty sz _ _ _=>match x with
        | .agg ⟨cs⟩=>andK (0≤i) <| andK (i < (n:Int)) <| dropK cs (i.toNat*sz) fun cs=>takeK cs sz fun cs=>mkK ty cs fun v=>K ⟨env,loc,H,O⟩ (.v v)
        | _=>False
      | _=>False
    | _=>False
  | .lookup t x i ok=>evK env x fun e=>e.valK fun x=>evK env i fun e=>e.valK fun i=>tyK Γ t fun ty _ _ _ _=>match ty with
    | .map kt et=>tyK Γ kt fun ty _ _ _ _=>match ty with
      | .int k=>tyK Γ et fun ty _ _ _ _=>match ty with
        | .other=>False
        | _=>lookK H O k x i fun r=>∀ z,match ok with
          | true=>K ⟨env,loc,H,O⟩ (.v (.tuple ⟨[r.getD z,.bool r.isSome]⟩))
          | false=>K ⟨env,loc,H,O⟩ (.v (r.getD z))
      | _=>False
    | _=>False
  | .mapUpdate t m i x=>evK env m fun e=>e.valK fun m=>evK env i fun e=>e.valK fun i=>evK env x fun e=>e.valK fun x=>tyK Γ t fun ty _ _ _ _=>match ty with
    | .map kt _=>tyK Γ kt fun ty _ _ _ _=>match ty with
      | .int k=>enterK O k m i x fun O=>K ⟨env,loc,H,O⟩ (.v undef)
      | _=>False
    | _=>False
  | .insert t m i x=>evK env m fun e=>e.valK fun m=>evK env i fun e=>e.valK fun i=>evK env x fun e=>e.valK fun x=>tyK Γ t fun ty _ _ _ _=>match ty with
    | .map kt _=>tyK Γ kt fun ty _ _ _ _=>match ty with
      | .int k=>enterK O k m i x fun O=>K ⟨env,loc,H,O⟩ (.v undef)
      | _=>False
    | _=>False
  | .range t x=>evK env x fun e=>e.valK fun x=>tyK Γ t fun ty _ _ _ _=>match ty with
    | .map _ _=>rangeK H O x fun O v=>K ⟨env,loc,H,O⟩ (.v v)
    | _=>False
  | .next it false=>evK env it fun e=>e.valK fun it=>nextK H O it fun O v=>K ⟨env,loc,H,O⟩ (.v v)
  | .entry it=>evK env it fun e=>e.valK fun it=>itemK H O it fun v=>K ⟨env,loc,H,O⟩ (.v v)
  | .extract x i=>evK env x fun e=>e.valK fun v=>match v with
    | .tuple ⟨vs⟩=>getK vs i fun v=>K ⟨env,loc,H,O⟩ (.v v)
    | _=>False
  | .call { callee:=.builtin b,args:=⟨args⟩,argTypes:=⟨ts⟩ }=>match b with
    | .len=>match args with
      | [x]=>match ts with
        | [t]=>tyK Γ t fun ty _ _ _ _=>evK env x fun e=>e.valK fun v=>match ty with
          | .slice _=>match v with
            | .slice _ n _=>K ⟨env,loc,H,O⟩ (.v (.int .i64 n))
            | _=>False
          | .str=>match v with
            | .string s=>K ⟨env,loc,H,O⟩ (.v (.int .i64 s.size))
            | _=>False
          | .array n _=>K ⟨env,loc,H,O⟩ (.v (.int .i64 n))
          | _=>False
        | _=>False
      | _=>False
    | .cap=>match args with
      | [x]=>match ts with
        | [t]=>tyK Γ t fun ty _ _ _ _=>evK env x fun e=>e.valK fun v=>match ty with
          | .slice _=>match v with
            | .slice _ _ n=>K ⟨env,loc,H,O⟩ (.v (.int .i64 n))
            | _=>False
          | _=>False
        | _=>False
      | _=>False
    | .min=>match args with
      | [x,y]=>evK env x fun e=>e.valK fun x=>evK env y fun e=>e.valK fun y=>match x with
        | .int k a=>match y with
          | .int _ b=>K ⟨env,loc,H,O⟩ (.v (.int k (if b < a then b else a)))
          | _=>False
        | _=>False
      | _=>False
    | .append=>match args with
      | [x,y]=>match ts with
        | [t,u]=>tyK Γ t fun ty _ _ _ _=>tyK Γ u fun ty' _ _ _ _=>evK env x fun e=>e.valK fun x=>evK env y fun e=>e.valK fun y=>match ty with
          | .slice et=>match ty' with
            | .slice _=>tyK Γ et fun ty sz by_ z _=>match ty with
              | .other=>False
              | _=>appendK H O et sz by_ z x y fun v O=>K ⟨env,loc,H,O⟩ (.v v)
            | _=>False
          | _=>False
        | _=>False
      | _=>False
    | .copy=>match args with
      | [x,y]=>match ts with
        | t::_=>tyK Γ t fun ty _ _ _ _=>evK env x fun e=>e.valK fun x=>evK env y fun e=>e.valK fun y=>match ty with
          | .slice et=>tyK Γ et fun ty sz _ _ _=>match ty with
            | .other=>False
            | _=>copyK H O sz x y fun v O=>K ⟨env,loc,H,O⟩ (.v v)
          | _=>False
        | _=>False
      | _=>False
    | .clear=>match args with
      | [x]=>match ts with
        | t::_=>tyK Γ t fun ty _ _ _ _=>evK env x fun e=>e.valK fun x=>match ty with
          | .slice et=>tyK Γ et fun ty sz _ z _=>match ty with
            | .other=>False
            | _=>clearK O sz z x fun O=>K ⟨env,loc,H,O⟩ (.v (.tuple #[]))
          | _=>False
        | _=>False
      | _=>False
    | .max=>match args with
      | [x,y]=>evK env x fun e=>e.valK fun x=>evK env y fun e=>e.valK fun y=>match x with
        | .int k a=>match y with
          | .int _ b=>K ⟨env,loc,H,O⟩ (.v (.int k (if b > a then b else a)))
          | _=>False
        | _=>False
      | _=>False
    | _=>False
  | .call { callee:=.value f,args:=⟨args⟩,.. }=>evK env f fun e=>e.valK fun f=>evsK env args fun vs=>callK P f vs H O fun r H O=>K ⟨env,loc,H,O⟩ (.v r)
  | _=>False
def litK (env : List En) (x:Operand) (b:Bool) (K:List En→Prop):Prop:=
  match x with
  | .tmp t=>setK env t (.v (.bool b)) K
  | _=>K env
def selK (want : Bool) (env:List En) (d:Nat) (v:Value) (A B:List En→Prop):Prop:=
  match v with
  | .bool b=>match b with
    | true=>setK env d (.v (.bool true)) fun env=>match want with
      | true=>A env
      | false=>B env
    | false=>setK env d (.v (.bool false)) fun env=>match want with
      | true=>B env
      | false=>A env
  | .tuple _=>B env
  | _=>False
def guardK (ops : List Oper) (g:Option (Nat × Bool)) (env:List En) (A B:List En→Prop):Prop:=
  match g with
  | none=>A env
  | some (j,want)=>getK ops j fun o=>match o with
    | ⟨some d,_,_,_,_,_⟩=>getK env d fun e=>e.valK fun v=>selK want env d v A B
    | _=>False
def opsK (P : Program) (pol:Tmp→Pol) (ops:List Oper):List Oper→S→(S→Prop)→Prop
  | [],s,K=>K s
  | ⟨d,o,_,_,_,g⟩::rest,s,K=>match s with
    | ⟨env,loc,H,O⟩=>guardK ops g env
      (fun env=>opK Γ P (pol (d.getD 0)) o ⟨env,loc,H,O⟩ fun s e=>match s with
        | ⟨env,loc,H,O⟩=>putK env d e fun env=>opsK P pol ops rest ⟨env,loc,H,O⟩ K)
      (fun env=>putK env d (.v undef) fun env=>opsK P pol ops rest ⟨env,loc,H,O⟩ K)
def ok : Exit→Bool
  | .panic _=>false
  | .outgrown=>false
  | _=>true
@[irreducible] def W (P : Program) (r:Option Nat) (c:Code) (s:S) (K:Exit→S→Prop):Prop:=
  ∀ (φ:Fr) (a:Act) (w:World),φ.r=r→Real φ s a w→c.wpIn (wide r) 0 P (fun e a' w'=>ok e=true∧∃ s',K e s'∧Real φ s' a' w') a w
def codeK (P : Program) (r:Option Nat) (pol:Tmp→Pol):Code→S→(Exit→S→Prop)→Prop
  | .skip,s,K=>K .normal s
  | .label _,s,K=>K .normal s
  | .region id ⟨ops⟩ draw,s,K=>match draw with
    | false=>opsK Γ P pol ops ops s (K .normal)
    | true=>W P r (.region id ⟨ops⟩ true) s K
  | .seq a b,s,K=>codeK P r pol a s fun e s'=>match e with
    | .normal=>codeK P r pol b s' K
    | e=>K e s'
  | .cond c t e,s,K=>match s with
    | ⟨env,loc,H,O⟩=>evK env c fun v=>v.valK fun v=>match v with
      | .bool b=>match b with
        | true=>litK env c true fun env=>codeK P r pol t ⟨env,loc,H,O⟩ K
        | false=>litK env c false fun env=>codeK P r pol e ⟨env,loc,H,O⟩ K
      | _=>False
  | .block id c,s,K=>codeK P r pol c s fun e s'=>match e with
    | .exit i=>if i=id then K .normal s' else K (.exit i) s'
    | e=>K e s'
  | .scope c,s,K=>codeK P r pol c s fun e s'=>match e with
    | .goto _=>False
    | e=>K e s'
  | .exit id,s,K=>K (.exit id) s
  | .ret,s,K=>K .ret s
  | .goto _,_,_=>False
  | .loop c,s,K=>W P r (.loop c) s K
  | .rangeFunc g ps as body,s,K=>W P r (.rangeFunc g ps as body) s K
  | .refuse _,_,_=>False
end
end Go.Proofs.YtgbhgfdgifkdhaaGreat.X

namespace Go.Proofs.YtgbhgfdgifkdhaaGreat.X
open Go PH
def TyOK (P : Program) (t:TypeId):Ty→Prop
  | .int k=>P.underlying t=some (.int k)
  | .bool=>P.underlying t=some .bool
  | .str=>P.underlying t=some .string
  | .slice e=>P.underlying t=some (.slice e)
  | .array n e=>P.underlying t=some (.array n e)
  | .struct fs=>∃ fields,P.underlying t=some (.struct fields)∧fields.toList.map (fun f=>(f.offset,f.type))=fs∧∀ f∈fields.toList,(P.info? f.type).isSome=true
  | .ptr e=>P.underlying t=some (.pointer e)
  | .map k e=>P.underlying t=some (.map k e)
  | .func=>∃ a b c,P.underlying t=some (.func a b c)
  | .other=>True
def fits : List CK→List Value→Prop
  | [],[]=>True
  | .int k::ks,.int j _::l=>k=j∧fits ks l
  | .bool::ks,.bool _::l=>fits ks l
  | .str::ks,.string _::l=>fits ks l
  | _,_=>False
def FlatOK (P : Program) (t:TypeId) (ks:List CK):Prop:=
  ∀ w xs ys x y,fits ks xs→fits ks ys →
    ((do eqGuard .eql t x y (.agg ⟨xs⟩) (.agg ⟨ys⟩);binOp .eql t (.agg ⟨xs⟩) (.agg ⟨ys⟩)):Sem Value).run P w=.ok (.bool (eqCells xs ys)) w ∧
    ((do eqGuard .neq t x y (.agg ⟨xs⟩) (.agg ⟨ys⟩);binOp .neq t (.agg ⟨xs⟩) (.agg ⟨ys⟩)):Sem Value).run P w=.ok (.bool (!eqCells xs ys)) w
structure InfoOK (P : Program) (t:TypeId) (ti:TI):Prop where
  info:∃ i,P.info? t=some i∧i.size=ti.size∧i.bytes=ti.bytes∧∃ z,i.zero=some z∧z.cells.toList=ti.zero
  flat:ti.flat=[]∨FlatOK P t ti.flat
  zlen:ti.zero.length=ti.size
def Ty.isOther : Ty→Bool
  | .other=>true
  | _=>false
def TIOK (P : Program) (t:TypeId) (ti:TI):Prop:=ti.ty.isOther=true∨(TyOK P t ti.ty∧InfoOK P t ti)
theorem tyK_inv {Γ : TypeId→TI} {t:TypeId} {K:Ty→Nat→Nat→List Value→List CK→Prop} (h:tyK Γ t K):K (Γ t).ty (Γ t).size (Γ t).bytes (Γ t).zero (Γ t).flat:=h
theorem valK_inv {loc : List (Option B)} {e:En} {v:Value} {K:Value→Prop} (hh:Holds loc e (some v)) (h:e.valK K):K v:=by
  cases e with
  | any=>exact h.elim
  | v x=>cases hh;exact h
  | l x i=>obtain⟨hy,_⟩:=hh;cases hy;exact h
theorem evK_inv {φ : Fr} {s:S} {a:Act} {w:World} {x:Operand} {K:En→Prop} (hR:Real φ s a w) (h:evK s.env x K):∃ e,K e∧Holds s.loc e (some (a.eval x)):=by
  cases x with
  | tmp t=>
    obtain⟨e,he,hk⟩:=getK_iff.1 h
    have hh:=hR.env t e he
    have hv:∀ x,a.tmps[t]?=some x→a.eval (.tmp t)=x:=fun x hx=>by simp[Act.eval,Array.getD_eq_getD_getElem?,hx]
    cases e with
    | any=>exact hk.elim
    | v x=>exact⟨_,hk,by rw[hv x hh];rfl⟩
    | l x i=>exact⟨_,hk,by rw[hv x hh.1];exact⟨rfl,hh.2⟩⟩
  | const v=>exact⟨_,h,rfl⟩
  | global g=>exact⟨_,h,rfl⟩
  | func f=>exact⟨_,h,rfl⟩
theorem evsK_inv {φ : Fr} {s:S} {a:Act} {w:World} (hR:Real φ s a w):∀ {xs:List Operand} {K:List Value→Prop},evsK s.env xs K→K (xs.map a.eval)
  | [],_,h=>h
  | x::xs,K,h=>by
    obtain⟨e,hk,hh⟩:=evK_inv hR h
    exact evsK_inv hR (K:=fun vs=>K (a.eval x::vs)) (valK_inv hh hk)
theorem oneK_inv : ∀ {cs:List Value} {K:Prop},oneK cs K→K∧∀ v∈cs,v.oneCell'=true
  | [],_,h=>⟨h,by simp⟩
  | v::cs,K,h=>by
    have:v.oneCell'=true∧oneK cs K:=by
      cases v<;>first | exact⟨rfl,h⟩ | exact h.elim
    obtain⟨h1,h2⟩:=oneK_inv this.2
    refine⟨h1,fun x hx=>?_⟩
    rcases List.mem_cons.1 hx with e | e
    · rw[e];exact this.1
    · exact h2 x e
theorem cellsK_inv {v : Value} {K:List Value→Prop} (h:cellsK v K):K v.cells.toList∧∀ x∈v.cells.toList,x.oneCell'=true:=by
  cases v with
  | agg cs=>obtain⟨cs⟩:=cs;exact oneK_inv (cs:=cs) h
  | tuple vs=>exact h.elim
  | _=>exact⟨h,by simp[Value.cells,Value.oneCell']⟩
theorem Real.cell {φ : Fr} {s:S} {a:Act} {w:World} (hR:Real φ s a w) {i:Nat} {b:B} (h:s.loc[i]?=some (some b)) (off:Nat) :
    w.cell? ⟨b.n,off,none⟩=b.cells[off]?:=by
  have:=(hR.loc i b h).1
  simp[World.cell?,this]
theorem alloc_old (w : World) (o:Obj) {n:Nat} (h:n < w.heap.size):(w.alloc o).heap[n]?=w.heap[n]?:=RowKit.Below.heap_alloc w o n h
theorem alloc_new (w : World) (o:Obj):(w.alloc o).heap[w.heap.size]?=some o:=World.alloc_heap_new w o
theorem alloc_keeps {w : World} {n:Nat} {o:Obj} (o':Obj) (h:w.heap[n]?=some o):(w.alloc o').heap[n]?=some o:=
  (alloc_old w o' (Array.getElem?_eq_some_iff.1 h).1).trans h
theorem Frm.alloc {M : PH} {w0 w:World} (h:Frm M w0 w) (o:Obj):Frm M w0 (w.alloc o):=
  ⟨h.os,h.tape,h.output,by simp;have:=h.size;omega,fun n hn hm=>(alloc_old w o (Nat.lt_of_lt_of_le hn h.size)).trans (h.block n hn hm)⟩
theorem PH.In.alloc {H : PH} {w:World} (h:In H w) (o:Obj):In H (w.alloc o):=fun n o' hn=>alloc_keeps o (h n o' hn)
theorem PH.In.ins_alloc {H : PH} {w:World} (h:In H w) (o:Obj):In (ins H w.heap.size o) (w.alloc o):=fun n o' hn=>by
  by_cases e:n=w.heap.size
  · subst e;rw[ins_same] at hn;cases hn;exact alloc_new w _
  · rw[ins_ne _ _ e] at hn;exact alloc_keeps o (h n o' hn)
section
variable {φ : Fr} {s : S} {a : Act} {w : World}
theorem Real.loc_lt (hR : Real φ s a w) {i:Nat} {b:B} (h:s.loc[i]?=some (some b)):b.n < w.heap.size:=(Array.getElem?_eq_some_iff.1 (hR.loc i b h).1).1
theorem Mark.alloc {d : Deferred} (h:Mark s φ w d) (o:Obj):Mark s φ (w.alloc o) d:=by
  obtain⟨r,h1,h2,h3,h4,h5,h6⟩:=h
  exact⟨r,h1,alloc_keeps o h2,h3,h4,h5,h6⟩
theorem Real.alloc_own (hR : Real φ s a w) (o:Obj):Real φ ⟨s.env,s.loc,s.H,ins s.O w.heap.size o⟩ a (w.alloc o):=by
  have hH:=hR.inH.none (Nat.le_refl w.heap.size)
  refine⟨hR.size,hR.env,?_,hR.apart,hR.inH.alloc o,hR.inO.ins_alloc o,?_,hR.sub,?_,hR.frm.alloc o,hR.uniq,?_⟩
  · intro i b hb
    obtain⟨h1,h2,h3,h4⟩:=hR.loc i b hb
    have:=hR.loc_lt hb
    exact⟨alloc_keeps o h1,by dsimp only;rw[ins_ne _ _ (by omega)];exact h2,h3,h4⟩
  · intro n
    by_cases e:n=w.heap.size
    · subst e;exact .inl hH
    · dsimp only;rw[ins_ne _ _ e];exact hR.dis n
  · intro n hn hm
    have:=hR.frm.size
    dsimp only
    rw[ins_ne _ _ (by omega)]
    exact hR.old n hn hm
  · intro d hd
    obtain⟨r,h1,h2,h3,h4,h5,h6⟩:=hR.marks d hd
    have hlt:=(Array.getElem?_eq_some_iff.1 h2).1
    exact⟨r,h1,alloc_keeps o h2,h3,h4,by dsimp only;rw[ins_ne _ _ (by omega)];exact h5,h6⟩
theorem getElem?_snoc {α : Type} (l:List α) (x:α) (i:Nat) (y:α):(l++[x])[i]?=some y ↔ (l[i]?=some y∨(i=l.length∧x=y)):=by
  rcases Nat.lt_trichotomy i l.length with h | h | h
  · rw[List.getElem?_append_left h]
    constructor
    · exact .inl
    · rintro (e | ⟨e,_⟩)
      · exact e
      · omega
  · subst h
    simp
  · rw[List.getElem?_eq_none (by simp;omega)]
    constructor
    · intro e;cases e
    · rintro (e | ⟨e,_⟩)
      · rw[List.getElem?_eq_none (by omega)] at e;cases e
      · omega
theorem holds_snoc {loc : List (Option B)} {x:Option B} {e:En} {y:Option Value} (h:Holds loc e y):Holds (loc++[x]) e y:=
  h.mono fun i b hb=>by
    cases b with
    | none=>exact .inl ((getElem?_snoc _ _ _ _).2 (.inl hb))
    | some b=>exact .inr ⟨b,b,rfl,(getElem?_snoc _ _ _ _).2 (.inl hb),rfl⟩
theorem Real.alloc_loc (hR : Real φ s a w) (cs:List Value) (t:TypeId):Real φ ⟨s.env,s.loc++[some ⟨w.heap.size,cs,t,false⟩],s.H,s.O⟩ a (w.alloc (.cells ⟨cs⟩ t (0,0))):=by
  have hH:=hR.inH.none (Nat.le_refl w.heap.size)
  have hO:=hR.inO.none (Nat.le_refl w.heap.size)
  have key:∀ (i:Nat) (b:B),(s.loc++[some ⟨w.heap.size,cs,t,false⟩])[i]?=some (some b)→(s.loc[i]?=some (some b)∨(i=s.loc.length∧b=⟨w.heap.size,cs,t,false⟩)):=fun i b hb=>by
    rcases (getElem?_snoc _ _ _ _).1 hb with h | ⟨h1,h2⟩
    · exact .inl h
    · cases h2;exact .inr ⟨h1,rfl⟩
  refine⟨hR.size,fun t e he=>holds_snoc (hR.env t e he),?_,?_,hR.inH.alloc _,hR.inO.alloc _,hR.dis,hR.sub,hR.old,hR.frm.alloc _,hR.uniq,?_⟩
  · intro i b hb
    rcases key i b hb with h | ⟨h1,h2⟩
    · obtain⟨h1,h2,h3,h4⟩:=hR.loc i b h
      exact⟨alloc_keeps _ h1,h2,h3,h4⟩
    · subst h2
      exact⟨alloc_new w _,hO,(fun h=>by cases h),fun _=>⟨hH,.inl hR.frm.size⟩⟩
  · intro i j b c hb hc hn
    rcases key i b hb with h | ⟨h1,h2⟩<;>rcases key j c hc with k | ⟨k1,k2⟩
    · exact hR.apart i j b c h k hn
    · subst k2;have:=hR.loc_lt h;simp at hn;omega
    · subst h2;have:=hR.loc_lt k;simp at hn;omega
    · omega
  · intro d hd
    obtain⟨r,h1,h2,h3,h4,h5,h6⟩:=hR.marks d hd
    have hlt:=(Array.getElem?_eq_some_iff.1 h2).1
    refine⟨r,h1,alloc_keeps _ h2,h3,h4,h5,fun i b hb=>?_⟩
    rcases key i b hb with h | ⟨_,k⟩
    · exact h6 i b h
    · subst k;simp;omega
theorem Real.alloc_imm (hR : Real φ s a w) (cs:List Value) (t:TypeId):Real φ ⟨s.env,s.loc++[some ⟨w.heap.size,cs,t,true⟩],ins s.H w.heap.size (.cells ⟨cs⟩ t (0,0)),s.O⟩ a (w.alloc (.cells ⟨cs⟩ t (0,0))):=by
  have hH:=hR.inH.none (Nat.le_refl w.heap.size)
  have hO:=hR.inO.none (Nat.le_refl w.heap.size)
  have key:∀ (i:Nat) (b:B),(s.loc++[some ⟨w.heap.size,cs,t,true⟩])[i]?=some (some b)→(s.loc[i]?=some (some b)∨(i=s.loc.length∧b=⟨w.heap.size,cs,t,true⟩)):=fun i b hb=>by
    rcases (getElem?_snoc _ _ _ _).1 hb with h | ⟨h1,h2⟩
    · exact .inl h
    · cases h2;exact .inr ⟨h1,rfl⟩
  refine⟨hR.size,fun t e he=>holds_snoc (hR.env t e he),?_,?_,hR.inH.ins_alloc _,hR.inO.alloc _,?_,hR.sub.trans (sub_ins _ _ hH),?_,hR.frm.alloc _,hR.uniq,?_⟩
  · intro i b hb
    rcases key i b hb with h | ⟨h1,h2⟩
    · obtain⟨h1,h2,h3,h4⟩:=hR.loc i b h
      have:=hR.loc_lt h
      dsimp only
      rw[ins_ne _ _ (by omega)]
      exact⟨alloc_keeps _ h1,h2,h3,h4⟩
    · subst h2
      exact⟨alloc_new w _,hO,(fun _=>by simp),fun h=>by cases h⟩
  · intro i j b c hb hc hn
    rcases key i b hb with h | ⟨h1,h2⟩<;>rcases key j c hc with k | ⟨k1,k2⟩
    · exact hR.apart i j b c h k hn
    · subst k2;have:=hR.loc_lt h;simp at hn;omega
    · subst h2;have:=hR.loc_lt k;simp at hn;omega
    · omega
  · intro n
    by_cases e:n=w.heap.size
    · subst e;exact .inr hO
    · dsimp only;rw[ins_ne _ _ e];exact hR.dis n
  · intro n hn hm
    have:=hR.frm.size
    dsimp only
    rw[ins_ne _ _ (by omega)]
    exact hR.old n hn hm
  · intro d hd
    obtain⟨r,h1,h2,h3,h4,h5,h6⟩:=hR.marks d hd
    have hlt:=(Array.getElem?_eq_some_iff.1 h2).1
    refine⟨r,h1,alloc_keeps _ h2,h3,by dsimp only;rw[ins_ne _ _ (by omega)];exact h4,h5,fun i b hb=>?_⟩
    rcases key i b hb with h | ⟨_,k⟩
    · exact h6 i b h
    · subst k;simp;omega
inductive Kd where
  | light | grow | free | alc
def Op.kd : Op→Kd
  | .alloc _=>.alc
  | .box _ _=>.alc
  | .makeMap _ _=>.alc
  | .makeSlice _ _ _=>.alc
  | .buildSlice _ _ _=>.alc
  | .store _ _ _=>.free
  | .lookup _ _ _ _=>.grow
  | .mapUpdate _ _ _ _=>.grow
  | .insert _ _ _ _=>.grow
  | .call c=>match c.callee with
    | .value _=>.grow
    | .builtin b=>match b with
      | .len=>.light
      | .cap=>.light
      | .min=>.light
      | .max=>.light
      | _=>.free
    | _=>.free
  | .move _=>.light
  | .assign _=>.light
  | .pick _ _ _=>.light
  | .load _ _=>.light
  | .nilCheck _=>.light
  | .binOp _ _ _ _ _=>.light
  | .unOp _ _ _=>.light
  | .convert _ _ _=>.light
  | .makeFunc _ _ _=>.light
  | .fieldAddr _ _ _=>.light
  | .field _ _ _=>.light
  | .indexAddr _ _ _=>.light
  | .index _ _ _=>.light
  | .extract _ _=>.light
  | .slice _ _ _ _ _=>.light
  | .build _ _=>.light
  | _=>.free
structure Grow (s : S) (w:World) (s':S) (w':World):Prop where
  loc:∃ l,s'.loc=s.loc++l∧∀ b,some b∈l→w.heap.size≤b.n
  sub:Sub s.H s'.H
  size:w.heap.size≤w'.heap.size
  old:∀ n,n < w.heap.size→s.O n=none→w'.heap[n]?=w.heap[n]?∧s'.H n=s.H n∧s'.O n=none
structure Alc (s : S) (w:World) (s':S) (w':World):Prop where
  grow:Grow s w s' w'
  same:∀ n,n < w.heap.size→w'.heap[n]?=w.heap[n]?
  own:∀ n,s.O n ≠ none→s'.O n ≠ none
def Stp : Kd→S→World→S→World→Prop
  | .alc,s,w,s',w'=>Alc s w s' w'
  | .light,s,w,s',w'=>s'=s∧w'=w
  | .grow,s,w,s',w'=>Grow s w s' w'
  | .free,s,w,s',w'=>Sub s.H s'.H∧∀ n,n < w.heap.size→s.H n=none→s.O n=none→(∀ (i:Nat) (c:B),s.loc[i]?=some (some c)→c.n ≠ n) →
      w'.heap[n]?=w.heap[n]?∧s'.H n=none∧s'.O n=none∧∀ (i:Nat) (c:B),s'.loc[i]?=some (some c)→c.n ≠ n
theorem ins_keeps (O : PH) (k:Nat) (o:Obj) (n:Nat) (h:O n ≠ none):ins O k o n ≠ none:=by
  by_cases e:n=k
  · subst e;rw[ins_same];simp
  · rw[ins_ne _ _ e];exact h
theorem Alc.owns (s : S) (w:World) (o:Obj):Alc s w ⟨s.env,s.loc,s.H,ins s.O w.heap.size o⟩ (w.alloc o):=
  ⟨⟨⟨[],by simp,by simp⟩,Sub.refl _,by simp,fun n hn ho=>⟨alloc_old w o hn,rfl,by dsimp only;rw[ins_ne _ _ (by omega)];exact ho⟩⟩,fun n hn=>alloc_old w o hn,fun n h=>ins_keeps _ _ _ _ h⟩
theorem newK_inv {p : Pol} {cs:List Value} {t:TypeId} {K:S→(Value→En)→Nat→Prop} (hR:Real φ s a w) (h:newK p cs t s K) :
    ∃ s' f,K s' f w.heap.size∧Alc s w s' (w.alloc (.cells ⟨cs⟩ t (0,0)))∧Real φ s' a (w.alloc (.cells ⟨cs⟩ t (0,0))) ∧
      (∀ off,Holds s'.loc (f (.pointer (some ⟨w.heap.size,off,none⟩))) (some (.pointer (some ⟨w.heap.size,off,none⟩)))) ∧
      ∀ off l c,Holds s'.loc (f (.slice (some ⟨w.heap.size,off,none⟩) l c)) (some (.slice (some ⟨w.heap.size,off,none⟩) l c)):=by
  have hH0:=hR.inH.none (Nat.le_refl w.heap.size)
  have hO0:=hR.inO.none (Nat.le_refl w.heap.size)
  have h':=h
  cases p with
  | own=>exact⟨_,_,h' w.heap.size hH0 hO0,.owns _ _ _,hR.alloc_own _,fun _=>rfl,fun _ _ _=>rfl⟩
  | loc=>
    have h2:=appK_iff.1 (lenK_iff.1 (h' w.heap.size))
    exact⟨_,_,h2,⟨⟨⟨_,rfl,by simp⟩,Sub.refl _,by simp,fun n hn ho=>⟨alloc_old w _ hn,rfl,ho⟩⟩,fun n hn=>alloc_old w _ hn,fun n h=>h⟩,hR.alloc_loc cs t,fun off=>⟨rfl,.inr ⟨_,(getElem?_snoc _ _ _ _).2 (.inr ⟨by simp,rfl⟩),.inl ⟨off,rfl⟩⟩⟩,
      fun off l c=>⟨rfl,.inr ⟨_,(getElem?_snoc _ _ _ _).2 (.inr ⟨by simp,rfl⟩),.inr ⟨off,l,c,rfl⟩⟩⟩⟩
  | imm=>
    have h2:=appK_iff.1 (lenK_iff.1 (h' w.heap.size hH0 hO0))
    exact⟨_,_,h2,⟨⟨⟨_,rfl,by simp⟩,sub_ins _ _ (hR.inH.none (Nat.le_refl _)),by simp,fun n hn ho=>⟨alloc_old w _ hn,by dsimp only;rw[ins_ne _ _ (by omega)],ho⟩⟩,fun n hn=>alloc_old w _ hn,fun n h=>h⟩,hR.alloc_imm cs t,fun off=>⟨rfl,.inr ⟨_,(getElem?_snoc _ _ _ _).2 (.inr ⟨by simp,rfl⟩),.inl ⟨off,rfl⟩⟩⟩,
      fun off l c=>⟨rfl,.inr ⟨_,(getElem?_snoc _ _ _ _).2 (.inr ⟨by simp,rfl⟩),.inr ⟨off,l,c,rfl⟩⟩⟩⟩
end
end Go.Proofs.YtgbhgfdgifkdhaaGreat.X

namespace Go.Proofs.YtgbhgfdgifkdhaaGreat.X
open Go PH
section
variable {P : Program} {r : Option Nat} {a : Act} {w : World} {o : Oper} {next : Act → World → Prop} {Q : Exit → Act → World → Prop}
theorem wpIn_value (ho : ∀ c,o.op ≠ .defer c) {v:Value} {w':World} (hrun:(execOp a.eval o).run P w=.ok (.value v) w') (h:next (a.put o.dst v) w'):o.wpIn (wide r) 0 P a w next Q:=
  ⟨fun _ _=>trivial,by rw[Oper.semAt_eq _ _ _ ho,hrun];exact h⟩
def Val (P : Program) (o:Oper) (a:Act) (w:World) (next:Act→World→Prop):Prop:=
  ∃ v w',(execOp a.eval o).run P w=.ok (.value v) w'∧next (a.put o.dst v) w'
theorem val_intro (_ : ∀ c,o.op ≠ .defer c) {v:Value} {w':World} (hrun:(execOp a.eval o).run P w=.ok (.value v) w') (h:next (a.put o.dst v) w'):Val P o a w next:=⟨v,w',hrun,h⟩
theorem Val.wpIn (h : Val P o a w next) (ho:∀ c,o.op ≠ .defer c):o.wpIn (wide r) 0 P a w next Q:=by
  obtain⟨v,w',h1,h2⟩:=h
  exact wpIn_value ho h1 h2
theorem wpIn_skipped (ho : ∀ c,o.op ≠ .defer c) {w':World} (hrun:(execOp a.eval o).run P w=.ok .skip w') (h:next (a.put o.dst undef) w'):o.wpIn (wide r) 0 P a w next Q:=
  ⟨fun _ _=>trivial,by rw[Oper.semAt_eq _ _ _ ho,hrun];exact h⟩
theorem wpIn_enter (ho : ∀ c,o.op ≠ .defer c) {w':World} {f:FuncId} {args:Array Value} (hrun:(execOp a.eval o).run P w=.ok (.enter f args) w')
    (h:Calls P f args w' fun e w''=>∃ v,e=.returned v∧next (a.put o.dst v) w''):o.wpIn (wide r) 0 P a w next Q:=by
  refine⟨fun _ _=>trivial,?_⟩
  rw[Oper.semAt_eq _ _ _ ho,hrun,Oper.uponIn_enter]
  refine⟨(fun h=>by cases h),?_⟩
  have h2:CallsIn Fence.wide 0 P f args w' _:=callsIn_wide.2 (h.mono (R':=fun
      | .returned v,w''=>next (a.put o.dst v) w''
      | .panicked chain,w''=>Q (.panic chain) a w''
      | .outgrown,_=>LetsOut Q) (by rintro e w'' ⟨v,rfl,hv⟩;exact hv))
  exact h2
theorem wpIn_round (ho : ∀ c,o.op ≠ .defer c) {w':World} {l:Nat} {f:FuncId} {tmps:Array Value} {as body:Code} (hrun:(execOp a.eval o).run P w=.ok (.round l f tmps as body) w')
    (h:RoundIn (wide none) 0 P l f tmps as body w' fun e w''=>∃ v,e=.returned v∧next (a.put o.dst v) w''):o.wpIn (wide r) 0 P a w next Q:=by
  refine⟨fun _ _=>trivial,?_⟩
  rw[Oper.semAt_eq _ _ _ ho,hrun,Oper.uponIn_round]
  refine⟨(fun h=>by cases h),?_⟩
  have h2:RoundIn (wide none) 0 P l f tmps as body w' _:=h.mono (R':=fun
      | .returned v,w''=>next (a.put o.dst v) w''
      | .panicked chain,w''=>Q (.panic chain) a w''
      | .outgrown,_=>LetsOut Q) (by rintro e w'' ⟨v,rfl,hv⟩;exact hv)
  exact h2
end
section
variable {P : Program} {w : World}
theorem tiok {Γ : TypeId→TI} (hΓ:∀ t,TIOK P t (Γ t)) {t:TypeId} (h:(Γ t).ty.isOther=false):TyOK P t (Γ t).ty∧InfoOK P t (Γ t):=by
  rcases hΓ t with e | e
  · rw[h] at e;cases e
  · exact e
theorem run_zero {t : TypeId} {i:TypeInfo} {z:Value} (hi:P.info? t=some i) (hz:i.zero=some z):(zeroValue t).run P w=.ok z w:=by
  simp[zeroValue,typeInfo,hi,hz]
theorem run_size {t : TypeId} {i:TypeInfo} (hi:P.info? t=some i):(sizeOf t).run P w=.ok i.size w:=by
  simp[sizeOf,typeInfo,hi]
theorem run_newRow (t : TypeId) (cs:Array Value):(newRow t cs).run P w=.ok ⟨w.heap.size,0,none⟩ (w.alloc (.cells cs t)):=by
  simp[newRow]
theorem run_newVar (t : TypeId) (v:Value):(newVar t v).run P w=.ok ⟨w.heap.size,0,none⟩ (w.alloc (.cells v.cells t)):=run_newRow t _
theorem mkK_inv {t : TypeId} {ty:Ty} {cs:List Value} {K:Value→Prop} (ht:TyOK P t ty) (h:mkK ty cs K) :
    ∃ v,K v∧((v=.agg ⟨cs⟩∧∀ w,(isAgg t).run P w=.ok true w)∨(cs=[v]∧∀ w,(isAgg t).run P w=.ok false w)):=by
  have one:∀ {K':Prop} (v:Value→Prop) (c:List Value),(match c with | [x]=>v x | _=>False)→∃ x,c=[x]∧v x:=by
    intro K' v c h
    match c,h with
    | [x],h=>exact⟨x,rfl,h⟩
  cases ty with
  | struct fs=>obtain⟨f,hf,_,_⟩:=ht;exact⟨_,h,.inl ⟨rfl,fun w=>by simp[isAgg,run_underlying hf]⟩⟩
  | array n e=>exact⟨_,h,.inl ⟨rfl,fun w=>by simp[isAgg,run_underlying ht]⟩⟩
  | other=>exact h.elim
  | int k=>obtain⟨x,hc,hx⟩:=one (K':=True) K cs h;exact⟨x,hx,.inr ⟨hc,fun w=>by simp[isAgg,run_underlying ht]⟩⟩
  | bool=>obtain⟨x,hc,hx⟩:=one (K':=True) K cs h;exact⟨x,hx,.inr ⟨hc,fun w=>by simp[isAgg,run_underlying ht]⟩⟩
  | str=>obtain⟨x,hc,hx⟩:=one (K':=True) K cs h;exact⟨x,hx,.inr ⟨hc,fun w=>by simp[isAgg,run_underlying ht]⟩⟩
  | slice e=>obtain⟨x,hc,hx⟩:=one (K':=True) K cs h;exact⟨x,hx,.inr ⟨hc,fun w=>by simp[isAgg,run_underlying ht]⟩⟩
  | ptr e=>obtain⟨x,hc,hx⟩:=one (K':=True) K cs h;exact⟨x,hx,.inr ⟨hc,fun w=>by simp[isAgg,run_underlying ht]⟩⟩
  | map k e=>obtain⟨x,hc,hx⟩:=one (K':=True) K cs h;exact⟨x,hx,.inr ⟨hc,fun w=>by simp[isAgg,run_underlying ht]⟩⟩
  | func=>obtain⟨_,_,_,ht⟩:=ht;obtain⟨x,hc,hx⟩:=one (K':=True) K cs h;exact⟨x,hx,.inr ⟨hc,fun w=>by simp[isAgg,run_underlying ht]⟩⟩
theorem add_at (b off j : Nat):(⟨b,off,none⟩:Addr).add j=⟨b,off+j,none⟩:=by
  unfold Addr.add;split<;>simp_all
theorem run_loadVar {t : TypeId} {i:TypeInfo} {b off:Nat} {cs:List Value} {v:Value} (hi:P.info? t=some i) (hs:cs.length=i.size)
    (hv:(v=.agg ⟨cs⟩∧∀ w,(isAgg t).run P w=.ok true w)∨(cs=[v]∧∀ w,(isAgg t).run P w=.ok false w))
    (hc:∀ j u,cs[j]?=some u→w.cell? ⟨b,off+j,none⟩=some u):(loadVar t ⟨b,off,none⟩).run P w=.ok v w:=by
  rcases hv with⟨rfl,ha⟩ | ⟨rfl,ha⟩
  · have:=run_loadCells_list (P:=P) w ⟨b,off,none⟩ cs (fun j u hj=>by rw[add_at];exact hc j u hj)
    rw[hs] at this
    simp[loadVar,Sem.run_bind,ha,run_size hi,this,Result.andThen]
  · have h0:=hc 0 v rfl
    simp only[Nat.add_zero] at h0
    simp[loadVar,Sem.run_bind,ha,Result.andThen,h0]
end
end Go.Proofs.YtgbhgfdgifkdhaaGreat.X
namespace Go.Proofs.YtgbhgfdgifkdhaaGreat.X
open Go PH
theorem len_of_list {α : Type} (l:List α):(⟨l⟩:Array α).size=l.length:=rfl
section
variable {Γ : TypeId → TI} {P : Program} {φ : Fr} {s : S} {a : Act} {w : World}
theorem Rd.cells {H O : PH} {ad:Addr} {sz:Nat} {cs:List Value} (h:Rd H O ad sz cs) (hH:In H w) (hO:In O w) :
    ad=⟨ad.block,ad.off,none⟩∧cs.length=sz∧∀ j u,cs[j]?=some u→w.cell? ⟨ad.block,ad.off+j,none⟩=some u:=by
  obtain⟨h1,h2,c,t,fr,h3,h4⟩:=h
  refine⟨by cases ad;simp at h1;subst h1;rfl,h2,fun j u hj=>?_⟩
  have hw:w.heap[ad.block]?=some (.cells c t fr):=h3.elim (hH _ _) (hO _ _)
  have hlt:j < sz:=by rw[← h2];exact (List.getElem?_eq_some_iff.1 hj).1
  rw[← h4,List.getElem?_take_of_lt hlt,List.getElem?_drop] at hj
  simp[World.cell?,hw]
  rw[← Array.getElem?_toList]
  exact hj
theorem Real.put (hR : Real φ s a w) {d:Option Tmp} {e:En} {v:Value} (hh:Holds s.loc e (some v)) {K:List En→Prop} (h:putK s.env d e K) :
    ∃ env,K env∧Real φ ⟨env,s.loc,s.H,s.O⟩ (a.put d v) w:=by
  cases d with
  | none=>exact⟨_,h,hR⟩
  | some d=>
    obtain⟨hd,hk⟩:=setK_iff.1 h
    refine⟨_,hk,⟨by simp[Act.put,hR.size],?_,hR.loc,hR.apart,hR.inH,hR.inO,hR.dis,hR.sub,hR.old,hR.frm,hR.uniq,hR.marks⟩⟩
    intro t e' he'
    have hsz:=hR.size
    by_cases ht:d=t
    · subst ht
      rw[List.getElem?_set_self hd] at he'
      cases he'
      simp only[Act.put]
      rw[Array.getElem?_setIfInBounds_self_of_lt (by omega)]
      exact hh
    · rw[List.getElem?_set_ne ht] at he'
      simp only[Act.put]
      rw[Array.getElem?_setIfInBounds_ne ht]
      exact hR.env t e' he'
end
end Go.Proofs.YtgbhgfdgifkdhaaGreat.X

namespace Go.Proofs.YtgbhgfdgifkdhaaGreat.X
open Go PH
section
variable {Γ : TypeId → TI} {P : Program} {φ : Fr} {s : S} {a : Act} {w : World} {r : Option Nat} {next : Act → World → Prop} {Q : Exit → Act → World → Prop} {K : S → En → Prop} {pol : Pol}
variable {dst : Option Tmp} {ty : TypeId} {ps : String} {af : Array Edge} {gd : Option (Nat × Bool)}
abbrev Next (φ : Fr) (s:S) (a:Act) (w:World) (kd:Kd) (dst:Option Tmp) (K:S→En→Prop) (next:Act→World→Prop):Prop:=
  ∀ v w' s' e,K s' e→Stp kd s w s' w'→Real φ s' a w'→Holds s'.loc e (some v)→next (a.put dst v) w'
theorem op_move {x : Operand} (hR:Real φ s a w) (h:opK Γ P pol (.move x) s K) (hn:Next φ s a w .light dst K next):Val P (Oper.mk dst (.move x) ty ps af gd) a w next:=by
  obtain⟨env,loc,H,O⟩:=s
  unfold opK at h
  dsimp only at h
  obtain⟨e,hk,hh⟩:=evK_inv hR h
  exact val_intro (fun c hc=>by cases hc) rfl (hn _ _ _ _ hk ⟨rfl,rfl⟩ hR hh)
theorem op_assign {x : Operand} (hR:Real φ s a w) (h:opK Γ P pol (.assign x) s K) (hn:Next φ s a w .light dst K next):Val P (Oper.mk dst (.assign x) ty ps af gd) a w next:=by
  obtain⟨env,loc,H,O⟩:=s
  unfold opK at h
  dsimp only at h
  obtain⟨e,hk,hh⟩:=evK_inv hR h
  exact val_intro (fun c hc=>by cases hc) rfl (hn _ _ _ _ hk ⟨rfl,rfl⟩ hR hh)
theorem op_pick {c x y : Operand} (hR:Real φ s a w) (h:opK Γ P pol (.pick c x y) s K) (hn:Next φ s a w .light dst K next):Val P (Oper.mk dst (.pick c x y) ty ps af gd) a w next:=by
  obtain⟨env,loc,H,O⟩:=s
  unfold opK at h
  dsimp only at h
  obtain⟨e,hk,hh⟩:=evK_inv hR h
  have hk:=valK_inv hh hk
  revert hk
  cases hc:a.eval c<;>intro hk<;>try exact hk.elim
  rename_i b
  cases b
  · obtain⟨e,hk,hh⟩:=evK_inv hR hk
    exact val_intro (fun c hc=>by cases hc) (by simp[execOp,hc,asBool]) (hn _ _ _ _ hk ⟨rfl,rfl⟩ hR hh)
  · obtain⟨e,hk,hh⟩:=evK_inv hR hk
    exact val_intro (fun c hc=>by cases hc) (by simp[execOp,hc,asBool]) (hn _ _ _ _ hk ⟨rfl,rfl⟩ hR hh)
theorem other_elim {ty : Ty} {A:Prop} (h:match ty with | .other=>False | _=>A):ty.isOther=false∧A:=by
  cases ty<;>first | exact h.elim | exact⟨rfl,h⟩
theorem op_alloc {t : TypeId} (hΓ:∀ t,TIOK P t (Γ t)) (hR:Real φ s a w) (h:opK Γ P pol (.alloc t) s K) (hn:Next φ s a w .alc dst K next):(Oper.mk dst (.alloc t) ty ps af gd).wpIn (wide r) 0 P a w next Q:=by
  obtain⟨env,loc,H,O⟩:=s
  unfold opK at h
  dsimp only at h
  have h:=tyK_inv h
  obtain⟨ho,h⟩:=other_elim h
  obtain⟨i,hi,hs,hb,z,hz,hzc⟩:=(tiok hΓ ho).2.info
  obtain⟨h,_⟩:=oneK_inv h
  obtain⟨s',f,hk,he,hR',hp,_⟩:=newK_inv hR h
  have e:z.cells=⟨(Γ t).zero⟩:=by rw[← hzc]
  refine wpIn_value (fun c hc=>by cases hc) (v:=.pointer (some ⟨w.heap.size,0,none⟩)) (w':=w.alloc (.cells ⟨(Γ t).zero⟩ t)) ?_ (hn _ _ _ _ hk he hR' (hp 0))
  simp[execOp,Instr.alloc,Sem.run_bind,run_zero hi hz,Result.andThen,run_newVar,e]
theorem op_box {t : TypeId} {x:Operand} (hR:Real φ s a w) (h:opK Γ P pol (.box t x) s K) (hn:Next φ s a w .alc dst K next):(Oper.mk dst (.box t x) ty ps af gd).wpIn (wide r) 0 P a w next Q:=by
  obtain⟨env,loc,H,O⟩:=s
  unfold opK at h
  dsimp only at h
  obtain⟨e,hk,hh⟩:=evK_inv hR h
  obtain⟨h,_⟩:=cellsK_inv (valK_inv hh hk)
  obtain⟨s',f,hk,he,hR',hp,_⟩:=newK_inv hR h
  refine wpIn_value (fun c hc=>by cases hc) (v:=.pointer (some ⟨w.heap.size,0,none⟩)) (w':=w.alloc (.cells (a.eval x).cells t)) ?_ (hn _ _ _ _ hk he hR' (hp 0))
  simp[execOp,Instr.box,Result.andThen,run_newVar]
theorem op_extract {x : Operand} {i:Nat} (hR:Real φ s a w) (h:opK Γ P pol (.extract x i) s K) (hn:Next φ s a w .light dst K next):Val P (Oper.mk dst (.extract x i) ty ps af gd) a w next:=by
  obtain⟨env,loc,H,O⟩:=s
  unfold opK at h
  dsimp only at h
  obtain⟨e,hk,hh⟩:=evK_inv hR h
  have hk:=valK_inv hh hk
  revert hk
  cases hc:a.eval x<;>intro hk<;>try exact hk.elim
  rename_i vs
  obtain⟨vs⟩:=vs
  obtain⟨v,hv,hk⟩:=getK_iff.1 hk
  refine val_intro (fun c hc=>by cases hc) (v:=v) ?_ (hn _ _ _ _ hk ⟨rfl,rfl⟩ hR rfl)
  simp[execOp,Instr.extract,hc,hv]
theorem op_nilCheck {x : Operand} (hR:Real φ s a w) (h:opK Γ P pol (.nilCheck x) s K) (hn:Next φ s a w .light dst K next):Val P (Oper.mk dst (.nilCheck x) ty ps af gd) a w next:=by
  obtain⟨env,loc,H,O⟩:=s
  unfold opK at h
  dsimp only at h
  obtain⟨e,hk,hh⟩:=evK_inv hR h
  cases e with
  | any=>exact hk.elim
  | v y=>
    cases y<;>try exact hk.elim
    rename_i p
    cases p with
    | none=>exact hk.elim
    | some ad=>
      have hx:a.eval x=.pointer (some ad):=Option.some.inj hh
      refine val_intro (fun c hc=>by cases hc) (v:=.pointer (some ad)) (w':=w) ?_ (hn _ _ _ _ hk ⟨rfl,rfl⟩ hR rfl)
      simp[execOp,hx]
  | l y i=>
    cases y<;>try exact hk.elim
    rename_i p
    cases p with
    | none=>exact hk.elim
    | some ad=>
      have hx:a.eval x=.pointer (some ad):=Option.some.inj hh.1
      refine val_intro (fun c hc=>by cases hc) (v:=.pointer (some ad)) (w':=w) ?_ (hn _ _ _ _ hk ⟨rfl,rfl⟩ hR ⟨rfl,hh.2⟩)
      simp[execOp,hx]
theorem op_makeFunc {fn : Fn} {first cap:Array Operand} (hR:Real φ s a w) (h:opK Γ P pol (.makeFunc fn first cap) s K) (hn:Next φ s a w .light dst K next):Val P (Oper.mk dst (.makeFunc fn first cap) ty ps af gd) a w next:=by
  obtain⟨env,loc,H,O⟩:=s
  obtain⟨first⟩:=first
  obtain⟨cap⟩:=cap
  unfold opK at h
  dsimp only at h
  have h2:=evsK_inv hR (evsK_inv hR h)
  refine val_intro (fun c hc=>by cases hc) (v:=.func fn ⟨first.map a.eval⟩ ⟨cap.map a.eval⟩) ?_ (hn _ _ _ _ h2 ⟨rfl,rfl⟩ hR rfl)
  simp[execOp,Instr.makeFunc]
theorem op_makeMap {t : TypeId} {x:Option Operand} (hR:Real φ s a w) (h:opK Γ P pol (.makeMap t x) s K) (hn:Next φ s a w .alc dst K next):(Oper.mk dst (.makeMap t x) ty ps af gd).wpIn (wide r) 0 P a w next Q:=by
  obtain⟨env,loc,H,O⟩:=s
  unfold opK at h
  cases x with
  | some x=>exact h.elim
  | none=>
    dsimp only at h
    refine wpIn_value (fun c hc=>by cases hc) (v:=.map (some w.heap.size)) (w':=w.alloc (.map #[] 0)) ?_ (hn _ _ _ _ (h w.heap.size (hR.inH.none (Nat.le_refl _)) (hR.inO.none (Nat.le_refl _))) (.owns _ _ _) (hR.alloc_own _) rfl)
    simp[execOp,Instr.makeMap]
theorem op_load {t : TypeId} {x:Operand} (hΓ:∀ t,TIOK P t (Γ t)) (hR:Real φ s a w) (h:opK Γ P pol (.load t x) s K) (hn:Next φ s a w .light dst K next):Val P (Oper.mk dst (.load t x) ty ps af gd) a w next:=by
  obtain⟨env,loc,H,O⟩:=s
  unfold opK at h
  dsimp only at h
  obtain⟨e,hk,hh⟩:=evK_inv hR h
  have main:∀ (b off:Nat) (cs:List Value),a.eval x=.pointer (some ⟨b,off,none⟩)→cs.length=(Γ t).size→(∀ j u,cs[j]?=some u→w.cell? ⟨b,off+j,none⟩=some u) →
      mkK (Γ t).ty cs (fun v=>K ⟨env,loc,H,O⟩ (.v v))→Val P (Oper.mk dst (.load t x) ty ps af gd) a w next:=by
    intro b off cs hx hl hc hm
    have ho:(Γ t).ty.isOther=false:=by
      cases e:(Γ t).ty<;>first | rfl | (rw[e] at hm;exact hm.elim)
    obtain⟨hty,hinfo⟩:=tiok hΓ ho
    obtain⟨i,hi,hs,hb,z,hz,hzc⟩:=hinfo.info
    obtain⟨v,hk,hv⟩:=mkK_inv hty hm
    refine val_intro (fun c hc=>by cases hc) (v:=v) (w':=w) ?_ (hn _ _ _ _ hk ⟨rfl,rfl⟩ hR rfl)
    have:=run_loadVar (P:=P) (w:=w) (t:=t) hi (by rw[hs];exact hl) hv hc
    simp[execOp,Instr.loadAt,Instr.sureAddr,hx,Result.andThen,this]
  cases e with
  | any=>exact hk.elim
  | v y=>
    cases y<;>try exact hk.elim
    rename_i p
    cases p with
    | none=>exact hk.elim
    | some ad=>
      obtain⟨cs,hrd,hm⟩:=tyK_inv hk
      obtain⟨h1,h2,h3⟩:=hrd.cells hR.inH hR.inO
      exact main ad.block ad.off cs (by rw[← h1];exact Option.some.inj hh) h2 h3 hm
  | l y i=>
    cases y<;>try exact hk.elim
    rename_i p
    cases p with
    | none=>exact hk.elim
    | some ad=>
      obtain⟨ab,aoff,asp⟩:=ad
      obtain⟨b,hb,hk⟩:=getK_iff.1 hk
      cases b with
      | none=>exact hk.elim
      | some b=>
        obtain⟨n,cells,bt,pub⟩:=b
        obtain⟨h1,hk1⟩:=dropK_iff.1 (tyK_inv hk)
        obtain⟨h2,hk2⟩:=takeK_iff.1 hk1
        obtain⟨hx,hat⟩:=hh
        obtain⟨b',hb',hp⟩:=hat.resolve_left (by rw[hb];simp)
        rw[hb] at hb'
        cases hb'
        rcases hp with⟨off,hp⟩ | ⟨_,_,_,hp⟩
        · cases hp
          refine main n aoff _ (Option.some.inj hx) ?_ ?_ hk2
          · rw[List.length_take,List.length_drop] at *;omega
          · intro j u hj
            have hlt:j < (Γ t).size:=by
              have:=(List.getElem?_eq_some_iff.1 hj).1
              rw[List.length_take] at this;omega
            rw[List.getElem?_take_of_lt hlt,List.getElem?_drop] at hj
            have:=hR.cell hb (aoff+j)
            rw[this];exact hj
        · cases hp
end
end Go.Proofs.YtgbhgfdgifkdhaaGreat.X

namespace Go.Proofs.YtgbhgfdgifkdhaaGreat.X
open Go PH
section
variable {Γ : TypeId → TI} {P : Program} {φ : Fr} {s : S} {a : Act} {w : World} {r : Option Nat} {next : Act → World → Prop} {Q : Exit → Act → World → Prop} {K : S → En → Prop} {pol : Pol}
variable {dst : Option Tmp} {ty : TypeId} {ps : String} {af : Array Edge} {gd : Option (Nat × Bool)}
theorem made_flatten (z : Array Value) (m:Nat):madeCells z (m*z.size)=⟨(List.replicate m z.toList).flatten⟩:=by
  apply Array.ext'
  simp only[madeCells,Array.toList_map,Array.toList_range]
  induction m with
  | zero=>simp
  | succ m ih=>
    rw[List.replicate_succ',List.flatten_append,← ih,Nat.succ_mul,List.range_add,List.map_append]
    congr 1
    simp only[List.flatten_cons,List.flatten_nil,List.append_nil,List.map_map]
    apply List.ext_getElem?
    intro j
    by_cases hj:j < z.size
    · simp[hj,Nat.mod_eq_of_lt hj]
    · simp[hj]
theorem op_makeSlice {t : TypeId} {x y:Operand} (hΓ:∀ t,TIOK P t (Γ t)) (hR:Real φ s a w) (h:opK Γ P pol (.makeSlice t x y) s K) (hn:Next φ s a w .alc dst K next):(Oper.mk dst (.makeSlice t x y) ty ps af gd).wpIn (wide r) 0 P a w next Q:=by
  obtain⟨env,loc,H,O⟩:=s
  unfold opK at h
  dsimp only at h
  replace h:=tyK_inv h
  cases hs:(Γ t).ty<;>rw[hs] at h<;>try exact h.elim
  rename_i et
  have ht:=(tiok hΓ (t:=t) (by rw[hs];rfl)).1
  rw[hs] at ht
  replace h:=tyK_inv h
  replace h:=other_elim h
  obtain⟨ho,h⟩:=h
  obtain⟨i,hi,hsz,hb,z,hz,hzc⟩:=(tiok hΓ ho).2.info
  obtain⟨e,hk,hh⟩:=evK_inv hR h
  replace h:=valK_inv hh hk
  obtain⟨e,hk,hh⟩:=evK_inv hR h
  replace h:=valK_inv hh hk
  revert h
  cases hx:a.eval x<;>intro h<;>try exact h.elim
  rename_i k n
  cases k<;>try exact h.elim
  revert h
  cases hy:a.eval y<;>intro h<;>try exact h.elim
  rename_i k m
  cases k<;>try exact h.elim
  replace h:=andK_iff.1 h
  obtain⟨h1,h⟩:=h
  replace h:=andK_iff.1 h
  obtain⟨h2,h⟩:=h
  replace h:=andK_iff.1 h
  obtain⟨h6,h⟩:=h
  replace h:=andK_iff.1 h
  obtain⟨h3,h⟩:=h
  replace h:=lenK_iff.1 h
  rw[Nat.zero_add] at h
  replace h:=andK_iff.1 h
  obtain⟨h4,h⟩:=h
  replace h:=andK_iff.1 h
  obtain⟨h5,h⟩:=h
  have hrun:=run_make (P:=P) w t et i z ht hi hz .i64 .i64 n m h1 h2 (by rw[hb,Int.mul_comm];exact h3) (by omega)
  have e:madeCells z.cells (m.toNat*i.size)=⟨(List.replicate m.toNat (Γ et).zero).flatten⟩:=by
    have hl:z.cells.size=i.size:=by rw[hsz,← h4,← hzc,Array.length_toList]
    rw[← hl,made_flatten,hzc]
  rw[e] at hrun
  refine wpIn_value (fun c hc=>by cases hc) (v:=.slice (some ⟨w.heap.size,0,none⟩) n.toNat m.toNat) ?_ (hn _ _ _ _ (h w.heap.size (hR.inH.none (Nat.le_refl _)) (hR.inO.none (Nat.le_refl _))) (.owns _ _ _) (hR.alloc_own _) rfl)
  simp[execOp,hx,hy,hrun,Result.andThen]
theorem ty_of {Γ : TypeId→TI} {P:Program} (hΓ:∀ t,TIOK P t (Γ t)) {t:TypeId} {y:Ty} (h:(Γ t).ty=y) (ho:y.isOther=false):TyOK P t y:=by
  have:=(tiok hΓ (t:=t) (by rw[h];exact ho)).1
  rw[h] at this
  exact this
theorem place_field (fs : List (Nat × TypeId)) {fields:Array Field} (hf:fields.toList.map (fun f=>(f.offset,f.type))=fs) {i:Nat} {p:Nat × TypeId} (h:fs[i]?=some p) :
    ∃ f,fields[i]?=some f∧f.offset=p.1∧f.type=p.2:=by
  rw[← hf,List.getElem?_map] at h
  cases e:fields.toList[i]? with
  | none=>rw[e] at h;cases h
  | some f=>
    rw[e] at h
    cases h
    exact⟨f,by rw[← Array.getElem?_toList];exact e,rfl,rfl⟩
theorem op_fieldAddr {t : TypeId} {x:Operand} {f:Nat} (hΓ:∀ t,TIOK P t (Γ t)) (hR:Real φ s a w) (h:opK Γ P pol (.fieldAddr t x f) s K) (hn:Next φ s a w .light dst K next):Val P (Oper.mk dst (.fieldAddr t x f) ty ps af gd) a w next:=by
  obtain⟨env,loc,H,O⟩:=s
  unfold opK at h
  dsimp only at h
  obtain⟨e,hk,hh⟩:=evK_inv hR h
  replace h:=tyK_inv hk
  cases hs:(Γ t).ty<;>rw[hs] at h<;>try exact h.elim
  rename_i fs
  obtain⟨fields,ht,hf,_⟩:=ty_of hΓ hs rfl
  replace h:=getK_iff.1 h
  obtain⟨p,hp,h⟩:=h
  obtain⟨fo,ft⟩:=p
  obtain⟨fd,hfd,hfo,hft⟩:=place_field fs hf hp
  replace h:=tyK_inv h
  replace h:=other_elim h
  obtain⟨ho,h⟩:=h
  replace h:=andK_iff.1 h
  obtain⟨hsz,h⟩:=h
  obtain⟨i,hi,his,_⟩:=(tiok hΓ ho).2.info
  have run:∀ (b off:Nat),a.eval x=.pointer (some ⟨b,off,none⟩)→(execOp a.eval (Oper.mk dst (.fieldAddr t x f) ty ps af gd)).run P w=.ok (.value (.pointer (some ⟨b,off+fo,none⟩))) w:=by
    intro b off hx
    simp only at hfo hft
    have hz:i.size ≠ 0:=by rw[his];exact hsz
    simp[execOp,Instr.fieldAt,run_underlying ht,Result.andThen,hfd,Instr.sureAddr,hx,fieldPlace,hft,run_size hi,hz,add_at,hfo]
  cases e with
  | any=>exact h.elim
  | v y=>
    cases y<;>try exact h.elim
    rename_i p
    cases p with
    | none=>exact h.elim
    | some ad=>
      obtain⟨b,off,sp⟩:=ad
      replace h:=noneK_iff.1 h
      obtain⟨rfl,h⟩:=h
      exact val_intro (fun c hc=>by cases hc) (run b off (Option.some.inj hh)) (hn _ _ _ _ h ⟨rfl,rfl⟩ hR rfl)
  | l y j=>
    cases y<;>try exact h.elim
    rename_i p
    cases p with
    | none=>exact h.elim
    | some ad=>
      obtain⟨b,off,sp⟩:=ad
      replace h:=noneK_iff.1 h
      obtain⟨rfl,h⟩:=h
      obtain⟨hx,hat⟩:=hh
      refine val_intro (fun c hc=>by cases hc) (run b off (Option.some.inj hx)) (hn _ _ _ _ h ⟨rfl,rfl⟩ hR ⟨rfl,?_⟩)
      rcases hat with hat | ⟨b',hb',hp⟩
      · exact .inl hat
      refine .inr ⟨b',hb',?_⟩
      rcases hp with⟨_,hp⟩ | ⟨_,_,_,hp⟩
      · cases hp;exact .inl ⟨_,rfl⟩
      · cases hp
theorem run_part {t : TypeId} {i:TypeInfo} {cs:List Value} {off:Nat} {v:Value} (hi:P.info? t=some i)
    (hv:(v=.agg ⟨(cs.drop off).take i.size⟩∧∀ w,(isAgg t).run P w=.ok true w)∨((cs.drop off).take i.size=[v]∧∀ w,(isAgg t).run P w=.ok false w)) :
    (part t ⟨cs⟩ off).run P w=.ok v w:=by
  rcases hv with⟨rfl,ha⟩ | ⟨h1,ha⟩
  · have e:(⟨cs⟩:Array Value).extract off (off+i.size)=⟨(cs.drop off).take i.size⟩:=by
      apply Array.ext'
      simp[List.take_drop]
    simp[part,Sem.run_bind,ha,run_size hi,Result.andThen]
  · have h0:cs[off]?=some v:=by
      have:((cs.drop off).take i.size)[0]?=some v:=by rw[h1];rfl
      have hlt:0 < i.size:=by
        rcases Nat.eq_zero_or_pos i.size with e | e
        · rw[e] at h1;simp at h1
        · exact e
      rw[List.getElem?_take_of_lt hlt,List.getElem?_drop] at this
      exact this
    simp[part,Sem.run_bind,ha,Result.andThen,h0]
theorem op_field {t : TypeId} {x:Operand} {f:Nat} (hΓ:∀ t,TIOK P t (Γ t)) (hR:Real φ s a w) (h:opK Γ P pol (.field t x f) s K) (hn:Next φ s a w .light dst K next):Val P (Oper.mk dst (.field t x f) ty ps af gd) a w next:=by
  obtain⟨env,loc,H,O⟩:=s
  unfold opK at h
  dsimp only at h
  obtain⟨e,hk,hh⟩:=evK_inv hR h
  replace h:=tyK_inv (valK_inv hh hk)
  cases hs:(Γ t).ty<;>rw[hs] at h<;>try exact h.elim
  rename_i fs
  obtain⟨fields,ht,hf,_⟩:=ty_of hΓ hs rfl
  replace h:=getK_iff.1 h
  obtain⟨p,hp,h⟩:=h
  obtain⟨fo,ft⟩:=p
  obtain⟨fd,hfd,hfo,hft⟩:=place_field fs hf hp
  replace h:=tyK_inv h
  revert h
  cases hx:a.eval x<;>intro h<;>try exact h.elim
  rename_i cs
  obtain⟨cs⟩:=cs
  replace h:=dropK_iff.1 h
  obtain⟨h1,h⟩:=h
  replace h:=takeK_iff.1 h
  obtain⟨h2,h⟩:=h
  have ho:(Γ ft).ty.isOther=false:=by
    cases e:(Γ ft).ty<;>first | rfl | (rw[e] at h;exact h.elim)
  obtain⟨hty,hinfo⟩:=tiok hΓ ho
  obtain⟨i,hi,his,_⟩:=hinfo.info
  obtain⟨v,hk,hv⟩:=mkK_inv hty h
  rw[← his] at hv
  rw[List.length_drop] at h2
  dsimp only at h1 h2
  have:=run_part (P:=P) (w:=w) (t:=ft) hi hv
  simp only at hfo hft
  refine val_intro (fun c hc=>by cases hc) (v:=v) ?_ (hn _ _ _ _ hk ⟨rfl,rfl⟩ hR rfl)
  simp[execOp,Instr.field,run_underlying ht,Result.andThen,hfd,hx,asAgg,hft,hfo,this]
theorem op_index {t : TypeId} {x y:Operand} (hΓ:∀ t,TIOK P t (Γ t)) (hR:Real φ s a w) (h:opK Γ P pol (.index t x y) s K) (hn:Next φ s a w .light dst K next):Val P (Oper.mk dst (.index t x y) ty ps af gd) a w next:=by
  obtain⟨env,loc,H,O⟩:=s
  unfold opK at h
  dsimp only at h
  obtain⟨e,hk,hh⟩:=evK_inv hR h
  replace h:=valK_inv hh hk
  obtain⟨e,hk,hh⟩:=evK_inv hR h
  replace h:=tyK_inv (valK_inv hh hk)
  revert h
  cases hy:a.eval y<;>intro h<;>try exact h.elim
  rename_i k n
  cases hs:(Γ t).ty<;>rw[hs] at h<;>try exact h.elim
  rename_i len et
  have ht:P.underlying t=some (.array len et):=ty_of hΓ hs rfl
  replace h:=tyK_inv h
  revert h
  cases hx:a.eval x<;>intro h<;>try exact h.elim
  rename_i cs
  obtain⟨cs⟩:=cs
  replace h:=andK_iff.1 h
  obtain⟨h3,h⟩:=h
  replace h:=andK_iff.1 h
  obtain⟨h4,h⟩:=h
  replace h:=dropK_iff.1 h
  obtain⟨h1,h⟩:=h
  replace h:=takeK_iff.1 h
  obtain⟨h2,h⟩:=h
  have ho:(Γ et).ty.isOther=false:=by
    cases e:(Γ et).ty<;>first | rfl | (rw[e] at h;exact h.elim)
  obtain⟨hty,hinfo⟩:=tiok hΓ ho
  obtain⟨i,hi,his,_⟩:=hinfo.info
  obtain⟨v,hk,hv⟩:=mkK_inv hty h
  rw[← his] at hv h1 h2
  rw[List.length_drop] at h2
  have:=run_part (P:=P) (w:=w) (t:=et) hi hv
  refine val_intro (fun c hc=>by cases hc) (v:=v) ?_ (hn _ _ _ _ hk ⟨rfl,rfl⟩ hR rfl)
  simp[execOp,Instr.index,asIntOf,run_underlying ht,Result.andThen,hx,hy,h3,h4,run_size hi,this]
theorem op_indexAddr {t : TypeId} {x y:Operand} (hΓ:∀ t,TIOK P t (Γ t)) (hR:Real φ s a w) (h:opK Γ P pol (.indexAddr t x y) s K) (hn:Next φ s a w .light dst K next):Val P (Oper.mk dst (.indexAddr t x y) ty ps af gd) a w next:=by
  obtain⟨env,loc,H,O⟩:=s
  unfold opK at h
  dsimp only at h
  obtain⟨e,hk,hh⟩:=evK_inv hR h
  obtain⟨e',hk',hh'⟩:=evK_inv hR hk
  replace h:=tyK_inv (valK_inv hh' hk')
  revert h
  cases hy:a.eval y<;>intro h<;>try exact h.elim
  rename_i k n
  cases hs:(Γ t).ty<;>rw[hs] at h<;>try exact h.elim
  · rename_i et
    have ht:P.underlying t=some (.slice et):=ty_of hΓ hs rfl
    replace h:=tyK_inv h
    replace h:=other_elim h
    obtain⟨ho,h⟩:=h
    obtain⟨i,hi,his,_⟩:=(tiok hΓ ho).2.info
    have run:∀ (b off len cap:Nat),a.eval x=.slice (some ⟨b,off,none⟩) len cap→0≤n→n < len→(execOp a.eval (Oper.mk dst (.indexAddr t x y) ty ps af gd)).run P w=.ok (.value (.pointer (some ⟨b,off+n.toNat*(Γ et).size,none⟩))) w:=by
      intro b off len cap hx h0 h1
      simp[execOp,Instr.indexAt,asIntOf,run_underlying ht,Result.andThen,hx,hy,h0,h1,run_size hi,add_at,his]
    cases e with
    | any=>exact h.elim
    | v z=>
      cases z<;>try exact h.elim
      rename_i p len cap
      cases p with
      | none=>exact h.elim
      | some ad=>
        obtain⟨b,off,sp⟩:=ad
        replace h:=noneK_iff.1 h
        obtain⟨rfl,h⟩:=h
        replace h:=andK_iff.1 h
        obtain⟨h0,h⟩:=h
        replace h:=andK_iff.1 h
        obtain⟨h1,h⟩:=h
        exact val_intro (fun c hc=>by cases hc) (run b off len cap (Option.some.inj hh) h0 h1) (hn _ _ _ _ h ⟨rfl,rfl⟩ hR rfl)
    | l z j=>
      cases z<;>try exact h.elim
      rename_i p len cap
      cases p with
      | none=>exact h.elim
      | some ad=>
        obtain⟨b,off,sp⟩:=ad
        replace h:=noneK_iff.1 h
        obtain⟨rfl,h⟩:=h
        replace h:=andK_iff.1 h
        obtain⟨h0,h⟩:=h
        replace h:=andK_iff.1 h
        obtain⟨h1,h⟩:=h
        obtain⟨hx,hat⟩:=hh
        refine val_intro (fun c hc=>by cases hc) (run b off len cap (Option.some.inj hx) h0 h1) (hn _ _ _ _ h ⟨rfl,rfl⟩ hR ⟨rfl,?_⟩)
        rcases hat with hat | ⟨b',hb',hp⟩
        · exact .inl hat
        refine .inr ⟨b',hb',?_⟩
        rcases hp with⟨_,hp⟩ | ⟨_,_,_,hp⟩
        · cases hp
        · cases hp;exact .inl ⟨_,rfl⟩
  · rename_i len et
    have ht:P.underlying t=some (.array len et):=ty_of hΓ hs rfl
    replace h:=tyK_inv h
    replace h:=other_elim h
    obtain⟨ho,h⟩:=h
    obtain⟨i,hi,his,_⟩:=(tiok hΓ ho).2.info
    have run:∀ (b off:Nat),a.eval x=.pointer (some ⟨b,off,none⟩)→0≤n→n < len→(execOp a.eval (Oper.mk dst (.indexAddr t x y) ty ps af gd)).run P w=.ok (.value (.pointer (some ⟨b,off+n.toNat*(Γ et).size,none⟩))) w:=by
      intro b off hx h0 h1
      simp[execOp,Instr.indexAt,Instr.sureAddr,asIntOf,run_underlying ht,Result.andThen,hx,hy,h0,h1,run_size hi,add_at,his]
    cases e with
    | any=>exact h.elim
    | v z=>
      cases z<;>try exact h.elim
      rename_i p
      cases p with
      | none=>exact h.elim
      | some ad=>
        obtain⟨b,off,sp⟩:=ad
        replace h:=noneK_iff.1 h
        obtain⟨rfl,h⟩:=h
        replace h:=andK_iff.1 h
        obtain⟨h0,h⟩:=h
        replace h:=andK_iff.1 h
        obtain⟨h1,h⟩:=h
        exact val_intro (fun c hc=>by cases hc) (run b off (Option.some.inj hh) h0 h1) (hn _ _ _ _ h ⟨rfl,rfl⟩ hR rfl)
    | l z j=>
      cases z<;>try exact h.elim
      rename_i p
      cases p with
      | none=>exact h.elim
      | some ad=>
        obtain⟨b,off,sp⟩:=ad
        replace h:=noneK_iff.1 h
        obtain⟨rfl,h⟩:=h
        replace h:=andK_iff.1 h
        obtain⟨h0,h⟩:=h
        replace h:=andK_iff.1 h
        obtain⟨h1,h⟩:=h
        obtain⟨hx,hat⟩:=hh
        refine val_intro (fun c hc=>by cases hc) (run b off (Option.some.inj hx) h0 h1) (hn _ _ _ _ h ⟨rfl,rfl⟩ hR ⟨rfl,?_⟩)
        rcases hat with hat | ⟨b',hb',hp⟩
        · exact .inl hat
        refine .inr ⟨b',hb',?_⟩
        rcases hp with⟨_,hp⟩ | ⟨_,_,_,hp⟩
        · cases hp;exact .inl ⟨_,rfl⟩
        · cases hp
end
end Go.Proofs.YtgbhgfdgifkdhaaGreat.X

namespace Go.Proofs.YtgbhgfdgifkdhaaGreat.X
open Go PH
section
variable {Γ : TypeId → TI} {P : Program} {φ : Fr} {s : S} {a : Act} {w : World} {r : Option Nat} {next : Act → World → Prop} {Q : Exit → Act → World → Prop} {K : S → En → Prop} {pol : Pol}
variable {dst : Option Tmp} {ty : TypeId} {ps : String} {af : Array Edge} {gd : Option (Nat × Bool)}
theorem setRow_heap_ne (w : World) (g:Nat) (c:Array Value) {n:Nat} (h:n ≠ g):(w.setRow g c).heap[n]?=w.heap[n]?:=by
  simp only[World.setRow,Array.getElem?_modify]
  rw[if_neg (by omega)]
theorem setRow_size (w : World) (g:Nat) (c:Array Value):(w.setRow g c).heap.size=w.heap.size:=by simp[World.setRow]
theorem Real.set_loc (hR : Real φ s a w) {i n:Nat} {cs cs':List Value} {t:TypeId} (hb:s.loc[i]?=some (some ⟨n,cs,t,false⟩)) :
    Real φ ⟨s.env,s.loc.set i (some ⟨n,cs',t,false⟩),s.H,s.O⟩ a (w.setRow n ⟨cs'⟩):=by
  have hlt:=(List.getElem?_eq_some_iff.1 hb).1
  obtain⟨h1,h2,h3,h4⟩:=hR.loc i _ hb
  obtain⟨h5,h6⟩:=h4 rfl
  dsimp only at h1 h2 h5 h6
  have hnew:(w.setRow n ⟨cs'⟩).heap[n]?=some (.cells ⟨cs'⟩ t (0,0)):=setRow_heap w n ⟨cs⟩ ⟨cs'⟩ t (0,0) h1
  have key:∀ (j:Nat) (b:B),(s.loc.set i (some ⟨n,cs',t,false⟩))[j]?=some (some b)→(j=i∧b=⟨n,cs',t,false⟩)∨(j ≠ i∧s.loc[j]?=some (some b)):=by
    intro j b hj
    by_cases e:i=j
    · subst e
      rw[List.getElem?_set_self hlt] at hj
      cases hj
      exact .inl ⟨rfl,rfl⟩
    · rw[List.getElem?_set_ne e] at hj
      exact .inr ⟨fun h=>e h.symm,hj⟩
  have inOf:∀ {H:PH},In H w→H n=none→In H (w.setRow n ⟨cs'⟩):=fun {H} hH hn k o hk=>by
    have:k ≠ n:=fun e=>by subst e;rw[hn] at hk;cases hk
    exact (setRow_heap_ne w n _ this).trans (hH k o hk)
  refine⟨hR.size,fun t e he=>(hR.env t e he).mono ?_,?_,?_,inOf hR.inH h5,inOf hR.inO h2,hR.dis,hR.sub,hR.old,?_,hR.uniq,?_⟩
  · intro j b hj
    by_cases e:i=j
    · subst e
      rw[hb] at hj
      cases hj
      exact .inr ⟨_,_,rfl,List.getElem?_set_self hlt,rfl⟩
    · cases b with
      | none=>exact .inl (by rw[List.getElem?_set_ne e];exact hj)
      | some b=>exact .inr ⟨b,b,rfl,by rw[List.getElem?_set_ne e];exact hj,rfl⟩
  · intro j b hj
    rcases key j b hj with⟨_,rfl⟩ | ⟨hne,hj⟩
    · exact⟨hnew,h2,(fun h=>by cases h),fun _=>⟨h5,h6⟩⟩
    · obtain⟨k1,k2,k3,k4⟩:=hR.loc j b hj
      have:b.n ≠ n:=fun e=>hne (hR.apart j i b _ hj hb e)
      exact⟨(setRow_heap_ne w n _ this).trans k1,k2,k3,k4⟩
  · intro j k b c hj hk hn
    rcases key j b hj with⟨e1,rfl⟩ | ⟨e1,hj⟩<;>rcases key k c hk with⟨e2,rfl⟩ | ⟨e2,hk⟩
    · omega
    · exact absurd (hR.apart i k _ c hb hk hn).symm e2
    · exact absurd (hR.apart j i b _ hj hb hn) e1
    · exact hR.apart j k b c hj hk hn
  · refine⟨hR.frm.os,hR.frm.tape,hR.frm.output,by rw[setRow_size];exact hR.frm.size,fun k hk hm=>?_⟩
    exact (setRow_heap_ne w n _ (fun e=>by
      subst e
      rcases h6 with h | h
      · omega
      · exact h hm)).trans (hR.frm.block k hk hm)
  · intro d hd
    obtain⟨q,q1,q2,q3,q4,q5,q6⟩:=hR.marks d hd
    have hne:q ≠ n:=fun e=>q6 i _ hb e.symm
    refine⟨q,q1,(setRow_heap_ne w n _ hne).trans q2,q3,q4,q5,fun j b hj=>?_⟩
    rcases key j b hj with⟨_,rfl⟩ | ⟨_,hj⟩
    · exact fun e=>hne e.symm
    · exact q6 j b hj
theorem Real.set_own (hR : Real φ s a w) {n:Nat} {cs:Array Value} {cs':Array Value} {t:TypeId} (hb:s.O n=some (.cells cs t (0,0))) :
    Real φ ⟨s.env,s.loc,s.H,ins s.O n (.cells cs' t (0,0))⟩ a (w.setRow n cs'):=by
  have h1:=hR.inO n _ hb
  have hH:s.H n=none:=(hR.dis n).resolve_right (by rw[hb];simp)
  have hnew:(w.setRow n cs').heap[n]?=some (.cells cs' t (0,0)):=setRow_heap w n cs cs' t (0,0) h1
  refine⟨hR.size,hR.env,?_,hR.apart,?_,?_,?_,hR.sub,?_,?_,hR.uniq,?_⟩
  · intro j b hj
    obtain⟨k1,k2,k3,k4⟩:=hR.loc j b hj
    have:b.n ≠ n:=fun e=>by rw[e,hb] at k2;cases k2
    exact⟨(setRow_heap_ne w n _ this).trans k1,by dsimp only;rw[ins_ne _ _ this];exact k2,k3,k4⟩
  · intro k o hk
    have:k ≠ n:=fun e=>by subst e;rw[hH] at hk;cases hk
    exact (setRow_heap_ne w n _ this).trans (hR.inH k o hk)
  · intro k o hk
    by_cases e:k=n
    · subst e;dsimp only at hk;rw[ins_same] at hk;cases hk;exact hnew
    · dsimp only at hk;rw[ins_ne _ _ e] at hk
      exact (setRow_heap_ne w n _ e).trans (hR.inO k o hk)
  · intro k
    by_cases e:k=n
    · subst e;exact .inl hH
    · dsimp only;rw[ins_ne _ _ e];exact hR.dis k
  · intro k hk hm
    have:k ≠ n:=fun e=>by subst e;have:=(hR.old k hk hm).2;rw[hb] at this;cases this
    dsimp only
    rw[ins_ne _ _ this]
    exact hR.old k hk hm
  · refine⟨hR.frm.os,hR.frm.tape,hR.frm.output,by rw[setRow_size];exact hR.frm.size,fun k hk hm=>?_⟩
    have:k ≠ n:=fun e=>by subst e;have:=(hR.old k hk hm).2;rw[hb] at this;cases this
    exact (setRow_heap_ne w n _ this).trans (hR.frm.block k hk hm)
  · intro d hd
    obtain⟨q,q1,q2,q3,q4,q5,q6⟩:=hR.marks d hd
    have hne:q ≠ n:=fun e=>by subst e;rw[hb] at q5;cases q5
    exact⟨q,q1,(setRow_heap_ne w n _ hne).trans q2,q3,q4,by dsimp only;rw[ins_ne _ _ hne];exact q5,q6⟩
theorem Real.put_own {φ : Fr} {s:S} {a:Act} {w:World} (hR:Real φ s a w) {n:Nat} {o:Obj} (o':Obj) (hb:s.O n=some o):Real φ ⟨s.env,s.loc,s.H,ins s.O n o'⟩ a (w.putObj n o'):=by
  have h1:=hR.inO n _ hb
  have hlt:n < w.heap.size:=hR.inO.lt hb
  have hH:s.H n=none:=(hR.dis n).resolve_right (by rw[hb];simp)
  have hne:∀ {k:Nat},k ≠ n→(w.putObj n o').heap[k]?=w.heap[k]?:=fun h=>World.putObj_heap_other h
  refine⟨hR.size,hR.env,?_,hR.apart,?_,?_,?_,hR.sub,?_,?_,hR.uniq,?_⟩
  · intro j b hj
    obtain⟨k1,k2,k3,k4⟩:=hR.loc j b hj
    have:b.n ≠ n:=fun e=>by rw[e,hb] at k2;cases k2
    exact⟨(hne this).trans k1,by dsimp only;rw[ins_ne _ _ this];exact k2,k3,k4⟩
  · intro k o hk
    have:k ≠ n:=fun e=>by subst e;rw[hH] at hk;cases hk
    exact (hne this).trans (hR.inH k o hk)
  · intro k o hk
    by_cases e:k=n
    · subst e;dsimp only at hk;rw[ins_same] at hk;cases hk;exact World.putObj_heap_same hlt
    · dsimp only at hk;rw[ins_ne _ _ e] at hk
      exact (hne e).trans (hR.inO k o hk)
  · intro k
    by_cases e:k=n
    · subst e;exact .inl hH
    · dsimp only;rw[ins_ne _ _ e];exact hR.dis k
  · intro k hk hm
    have:k ≠ n:=fun e=>by subst e;have:=(hR.old k hk hm).2;rw[hb] at this;cases this
    dsimp only
    rw[ins_ne _ _ this]
    exact hR.old k hk hm
  · refine⟨hR.frm.os,hR.frm.tape,hR.frm.output,by rw[World.putObj_size];exact hR.frm.size,fun k hk hm=>?_⟩
    have:k ≠ n:=fun e=>by subst e;have:=(hR.old k hk hm).2;rw[hb] at this;cases this
    exact (hne this).trans (hR.frm.block k hk hm)
  · intro d hd
    obtain⟨q,q1,q2,q3,q4,q5,q6⟩:=hR.marks d hd
    have hqn:q ≠ n:=fun e=>by subst e;rw[hb] at q5;cases q5
    exact⟨q,q1,(hne hqn).trans q2,q3,q4,by dsimp only;rw[ins_ne _ _ hqn];exact q5,q6⟩
theorem run_storeVar {t : TypeId} {i:TypeInfo} {v:Value} {b off:Nat} {cs:Array Value} {bt:TypeId} (hi:P.info? t=some i) (hs:v.cells.size=i.size)
    (h1:∀ x∈v.cells.toList,x.oneCell'=true) (hb:w.heap[b]?=some (.cells cs bt (0,0))) (hl:off+v.cells.size≤cs.size) :
    (storeVar t ⟨b,off,none⟩ v).run P w=.ok () (w.setRow b (cs.toList.take off++v.cells.toList++cs.toList.drop (off+v.cells.toList.length)).toArray):=by
  have:=run_storeCells_at (P:=P) b off bt v.cells.toList 0 cs w hb (by simpa using hl) h1
  simp only[Nat.add_zero] at this
  simp[storeVar,Sem.run_bind,run_size hi,Result.andThen,hs,this]
theorem op_store {t : TypeId} {x y:Operand} (hΓ:∀ t,TIOK P t (Γ t)) (hR:Real φ s a w) (h:opK Γ P pol (.store t x y) s K) (hn:Next φ s a w .free dst K next):(Oper.mk dst (.store t x y) ty ps af gd).wpIn (wide r) 0 P a w next Q:=by
  obtain⟨env,loc,H,O⟩:=s
  unfold opK at h
  dsimp only at h
  obtain⟨e,hk,hh⟩:=evK_inv hR h
  obtain⟨f,hk2,hh2⟩:=evK_inv hR hk
  obtain⟨hk3,hone⟩:=cellsK_inv (valK_inv hh2 hk2)
  replace hk3:=tyK_inv hk3
  obtain⟨ho,hk4⟩:=other_elim hk3
  obtain⟨i,hi,his,_⟩:=(tiok hΓ ho).2.info
  clear hk3 hk2 hk h
  cases e with
  | any=>exact hk4.elim
  | v z=>
    cases z<;>try exact hk4.elim
    rename_i p
    cases p with
    | none=>exact hk4.elim
    | some ad=>
      obtain⟨b,off,sp⟩:=ad
      replace hk4:=noneK_iff.1 hk4
      obtain⟨rfl,hk4⟩:=hk4
      replace hk4:=lenK_iff.1 hk4
      rw[Nat.zero_add] at hk4
      replace hk4:=andK_iff.1 hk4
      obtain⟨hl,hk4⟩:=hk4
      obtain⟨cs,bt,hO,hle,hk⟩:=hk4
      have hx:a.eval x=.pointer (some ⟨b,off,none⟩):=Option.some.inj hh
      have hrun:=run_storeVar (P:=P) (w:=w) (v:=a.eval y) hi (by rw[his,← hl,Array.length_toList]) hone (hR.inO b _ hO) (by rw[← Array.length_toList];simpa using hle)
      refine wpIn_skipped (fun c hc=>by cases hc) ?_ (hn undef _ _ _ hk ⟨Sub.refl _,fun n _ h1 h2 h3=>⟨setRow_heap_ne w b _ (fun e=>by subst e;dsimp only at h2;rw[hO] at h2;cases h2),h1,by dsimp only;rw[ins_ne _ _ (fun e=>by subst e;dsimp only at h2;rw[hO] at h2;cases h2)];exact h2,h3⟩⟩ (hR.set_own hO) rfl)
      simp[execOp,Instr.storeAt,Instr.sureAddr,hx,Result.andThen,hrun]
  | l z j=>
    cases z<;>try exact hk4.elim
    rename_i p
    cases p with
    | none=>exact hk4.elim
    | some ad=>
      obtain⟨ab,off,sp⟩:=ad
      obtain⟨b,hb,hk⟩:=getK_iff.1 hk4
      cases b with
      | none=>exact hk.elim
      | some b=>
        obtain⟨n,cs,bt,pub⟩:=b
        cases pub with
        | true=>exact hk.elim
        | false=>
          replace hk:=lenK_iff.1 hk
          rw[Nat.zero_add] at hk
          replace hk:=andK_iff.1 hk
          obtain⟨hl,hk⟩:=hk
          replace hk:=overK_iff.1 hk
          obtain⟨hle,hk⟩:=hk
          replace hk:=setK_iff.1 hk
          obtain⟨_,hk⟩:=hk
          obtain⟨hx,hat⟩:=hh
          obtain⟨b',hb',hp⟩:=hat.resolve_left (by rw[hb];simp)
          rw[hb] at hb'
          cases hb'
          rcases hp with⟨off',hp⟩ | ⟨_,_,_,hp⟩
          · cases hp
            have hx:a.eval x=.pointer (some ⟨n,off,none⟩):=Option.some.inj hx
            have hrun:=run_storeVar (P:=P) (w:=w) (v:=a.eval y) hi (by rw[his,← hl,Array.length_toList]) hone (hR.loc j _ hb).1 (by rw[← Array.length_toList];simpa using hle)
            refine wpIn_skipped (fun c hc=>by cases hc) ?_ (hn undef _ _ _ hk ⟨Sub.refl _,fun m _ h1 h2 h3=>⟨setRow_heap_ne w n _ (fun e=>h3 j _ hb e.symm),h1,h2,fun k c hc=>by
              by_cases e:j=k
              · subst e
                rw[List.getElem?_set_self (List.getElem?_eq_some_iff.1 hb).1] at hc
                cases hc
                exact h3 j ⟨n,cs,bt,false⟩ hb
              · rw[List.getElem?_set_ne e] at hc
                exact h3 k c hc⟩⟩ (hR.set_loc hb) rfl)
            simp[execOp,Instr.storeAt,Instr.sureAddr,hx,Result.andThen,hrun]
          · cases hp
end
end Go.Proofs.YtgbhgfdgifkdhaaGreat.X

namespace Go.Proofs.YtgbhgfdgifkdhaaGreat.X
open Go PH
section
variable {Γ : TypeId → TI} {P : Program} {φ : Fr} {s : S} {a : Act} {w : World} {r : Option Nat} {next : Act → World → Prop} {Q : Exit → Act → World → Prop} {K : S → En → Prop} {pol : Pol}
variable {dst : Option Tmp} {ty : TypeId} {ps : String} {af : Array Edge} {gd : Option (Nat × Bool)}
theorem op_unOp {u : UnOp} {t:TypeId} {x:Operand} (hR:Real φ s a w) (h:opK Γ P pol (.unOp u t x) s K) (hn:Next φ s a w .light dst K next):Val P (Oper.mk dst (.unOp u t x) ty ps af gd) a w next:=by
  obtain⟨env,loc,H,O⟩:=s
  unfold opK at h
  dsimp only at h
  obtain⟨e,hk,hh⟩:=evK_inv hR h
  replace hk:=valK_inv hh hk
  cases u<;>try exact hk.elim
  · revert hk
    cases hx:a.eval x<;>intro hk<;>try exact hk.elim
    refine val_intro (fun c hc=>by cases hc) ?_ (hn _ _ _ _ hk ⟨rfl,rfl⟩ hR rfl)
    simp[execOp,Op.unary,hx,Op.intArith]
  · revert hk
    cases hx:a.eval x<;>intro hk<;>try exact hk.elim
    refine val_intro (fun c hc=>by cases hc) ?_ (hn _ _ _ _ hk ⟨rfl,rfl⟩ hR rfl)
    simp[execOp,Op.unary,hx]
theorem any_underlying {t : TypeId} (hΓ:∀ t,TIOK P t (Γ t)) (ho:(Γ t).ty.isOther=false):∃ d,P.underlying t=some d∧(d=.int .u8∨d ≠ .invalid):=by
  have:=(tiok hΓ ho).1
  revert this ho
  cases (Γ t).ty<;>intro ho h
  · exact⟨_,h,.inr (by simp)⟩
  · exact⟨_,h,.inr (by simp)⟩
  · exact⟨_,h,.inr (by simp)⟩
  · exact⟨_,h,.inr (by simp)⟩
  · exact⟨_,h,.inr (by simp)⟩
  · obtain⟨f,hf,_,_⟩:=h;exact⟨_,hf,.inr (by simp)⟩
  · exact⟨_,h,.inr (by simp)⟩
  · exact⟨_,h,.inr (by simp)⟩
  · obtain⟨_,_,_,h⟩:=h;exact⟨_,h,.inr (by simp)⟩
  · cases ho
theorem op_convert {t u : TypeId} {x:Operand} (hΓ:∀ t,TIOK P t (Γ t)) (hR:Real φ s a w) (h:opK Γ P pol (.convert t u x) s K) (hn:Next φ s a w .light dst K next):Val P (Oper.mk dst (.convert t u x) ty ps af gd) a w next:=by
  obtain⟨env,loc,H,O⟩:=s
  unfold opK at h
  dsimp only at h
  obtain⟨e,hk,hh⟩:=evK_inv hR h
  replace hk:=valK_inv hh hk
  revert hk
  cases hx:a.eval x<;>intro hk<;>try exact hk.elim
  rename_i k n
  replace hk:=tyK_inv hk
  obtain⟨ho,hk⟩:=other_elim hk
  replace hk:=tyK_inv hk
  cases hs:(Γ u).ty<;>rw[hs] at hk<;>try exact hk.elim
  rename_i k'
  have hu:P.underlying u=some (.int k'):=ty_of hΓ hs rfl
  obtain⟨d,hd,_⟩:=any_underlying hΓ ho
  refine val_intro (fun c hc=>by cases hc) ?_ (hn _ _ _ _ hk ⟨rfl,rfl⟩ hR rfl)
  simp[execOp,hx,Result.andThen,convert,run_underlying hd,run_underlying hu,Conv.intToInt]
theorem eqGuard_int (op : BinOp) (t:TypeId) (x y:Operand) (k j:IntKind) (m n:Int):(eqGuard op t x y (.int k m) (.int j n)).run P w=.ok () w:=by
  simp[eqGuard]
theorem eqGuard_bool (op : BinOp) (t:TypeId) (x y:Operand) (m n:Bool):(eqGuard op t x y (.bool m) (.bool n)).run P w=.ok () w:=by
  simp[eqGuard]
theorem equalIn_bool (d : Nat) {t:TypeId} (ht:P.underlying t=some .bool) (m n:Bool):(Op.equalIn (d+1) t (.bool m) (.bool n)).run P w=.ok (m == n) w:=by
  simp[Op.equalIn,run_underlying ht]
theorem equalIn_slice (d : Nat) {t et:TypeId} (ht:P.underlying t=some (.slice et)) (a:Option Addr) (l c l' c':Nat):(Op.equalIn (d+1) t (.slice a l c) (.slice none l' c')).run P w=.ok a.isNone w:=by
  cases a<;>simp[Op.equalIn,run_underlying ht]
theorem equal_bool {t : TypeId} (ht:P.underlying t=some .bool) (m n:Bool):(Op.equal t (.bool m) (.bool n)).run P w=.ok (m == n) w:=equalIn_bool 9999 ht m n
theorem op_binOp {op : BinOp} {t u:TypeId} {x y:Operand} (hΓ:∀ t,TIOK P t (Γ t)) (hR:Real φ s a w) (h:opK Γ P pol (.binOp op t x y u) s K) (hn:Next φ s a w .light dst K next):Val P (Oper.mk dst (.binOp op t x y u) ty ps af gd) a w next:=by
  obtain⟨env,loc,H,O⟩:=s
  unfold opK at h
  dsimp only at h
  obtain⟨e,hk,hh⟩:=evK_inv hR h
  replace hk:=valK_inv hh hk
  obtain⟨e,hk,hh⟩:=evK_inv hR hk
  replace hk:=valK_inv hh hk
  have main:∀ v,((do eqGuard op t x y (a.eval x) (a.eval y);binOp op t (a.eval x) (a.eval y)):Sem Value).run P w=.ok v w→K ⟨env,loc,H,O⟩ (.v v)→Val P (Oper.mk dst (.binOp op t x y u) ty ps af gd) a w next:=by
    intro v hrun hk
    refine val_intro (fun c hc=>by cases hc) ?_ (hn _ _ _ _ hk ⟨rfl,rfl⟩ hR rfl)
    simp only[execOp,Sem.run_bind,hrun,Result.andThen,Sem.run_pure]
  unfold binK at hk
  revert hk
  cases hx:a.eval x<;>intro hk<;>try exact hk.elim
  ·
    rename_i m
    revert hk
    cases hy:a.eval y<;>intro hk<;>try exact hk.elim
    rename_i n
    replace hk:=tyK_inv hk
    cases hs:(Γ t).ty<;>rw[hs] at hk<;>try exact hk.elim
    have ht:P.underlying t=some .bool:=ty_of hΓ hs rfl
    rw[hx,hy] at main
    cases op<;>try exact hk.elim
    · refine main _ ?_ hk
      simp[Sem.run_bind,eqGuard_bool,Result.andThen,binOp,equal_bool ht]
    · refine main _ ?_ hk
      simp[Sem.run_bind,eqGuard_bool,Result.andThen,binOp,equal_bool ht]
  ·
    rename_i k m
    revert hk
    cases hy:a.eval y<;>intro hk<;>try exact hk.elim
    rename_i j n
    rw[hx,hy] at main
    cases op
    case shl=>
      replace hk:=andK_iff.1 hk
      obtain⟨h0,hk⟩:=hk
      refine main _ ?_ hk
      simp[eqGuard_int,Result.andThen,binOp,Op.shift,show ¬ n < 0 by omega]
    case shr=>
      replace hk:=andK_iff.1 hk
      obtain⟨h0,hk⟩:=hk
      refine main _ ?_ hk
      simp[eqGuard_int,Result.andThen,binOp,Op.shift,show ¬ n < 0 by omega]
    case quo=>
      replace hk:=andK_iff.1 hk
      obtain⟨rfl,hk⟩:=hk
      replace hk:=andK_iff.1 hk
      obtain⟨h0,hk⟩:=hk
      refine main _ ?_ hk
      simp[eqGuard_int,Result.andThen,binOp,Op.intDiv,h0]
    case rem=>
      replace hk:=andK_iff.1 hk
      obtain⟨rfl,hk⟩:=hk
      replace hk:=andK_iff.1 hk
      obtain⟨h0,hk⟩:=hk
      refine main _ ?_ hk
      simp[eqGuard_int,Result.andThen,binOp,Op.intDiv,h0]
    all_goals
      replace hk:=andK_iff.1 hk
      obtain⟨rfl,hk⟩:=hk
      refine main _ ?_ hk
      simp[eqGuard_int,Result.andThen,binOp,Op.intArith,Op.intBits,Op.intCmp]
  ·
    rename_i ad ln cp
    revert hk
    cases hy:a.eval y<;>intro hk<;>try exact hk.elim
    rename_i ad' ln' cp'
    cases ad' with
    | some _=>exact hk.elim
    | none=>
    replace hk:=tyK_inv hk
    cases hs:(Γ t).ty<;>rw[hs] at hk<;>try exact hk.elim
    rename_i et
    have ht:P.underlying t=some (.slice et):=ty_of hΓ hs rfl
    rw[hx,hy] at main
    have he:(Op.equal t (.slice ad ln cp) (.slice none ln' cp')).run P w=.ok ad.isNone w:=by
      exact equalIn_slice 9999 ht ad ln cp ln' cp'
    cases op<;>try exact hk.elim
    · refine main _ ?_ hk
      simp[Sem.run_bind,eqGuard,Result.andThen,binOp,he]
    · refine main _ ?_ hk
      simp[Sem.run_bind,eqGuard,Result.andThen,binOp,he]
  ·
    rename_i xs
    obtain⟨xs⟩:=xs
    revert hk
    cases hy:a.eval y<;>intro hk<;>try exact hk.elim
    rename_i ys
    obtain⟨ys⟩:=ys
    rw[hx,hy] at main
    replace hk:=tyK_inv hk
    obtain⟨ho,hk⟩:=other_elim hk
    have hflat:=(tiok hΓ ho).2.flat
    have fitsK_inv:∀ {ks:List CK} {l:List Value} {A:Prop},fitsK ks l A→fits ks l∧A:=by
      intro ks
      induction ks with
      | nil=>intro l A h;cases l<;>first | exact⟨trivial,h⟩ | exact h.elim
      | cons c ks ih=>
        intro l A h
        cases l with
        | nil=>cases c<;>exact h.elim
        | cons v l=>
          cases c<;>cases v<;>first | exact h.elim | exact ih h | (obtain⟨e,h⟩:=andK_iff.1 h;exact⟨⟨e,(ih h).1⟩,(ih h).2⟩)
    cases hf:(Γ t).flat with
    | nil=>rw[hf] at hk;exact hk.elim
    | cons c ks=>
      rw[hf] at hk hflat
      obtain⟨h1,hk⟩:=fitsK_inv hk
      obtain⟨h2,hk⟩:=fitsK_inv hk
      have hF:=(hflat.resolve_left (by simp)) w xs ys x y h1 h2
      cases op<;>try exact hk.elim
      · exact main _ hF.1 hk
      · exact main _ hF.2 hk
end
end Go.Proofs.YtgbhgfdgifkdhaaGreat.X

namespace Go.Proofs.YtgbhgfdgifkdhaaGreat.X
open Go PH
section
variable {Γ : TypeId → TI} {P : Program} {φ : Fr} {s : S} {a : Act} {w : World} {r : Option Nat} {next : Act → World → Prop} {Q : Exit → Act → World → Prop} {K : S → En → Prop} {pol : Pol}
variable {dst : Option Tmp} {ty : TypeId} {ps : String} {af : Array Edge} {gd : Option (Nat × Bool)}
theorem boundK_inv {φ : Fr} {s:S} {a:Act} {w:World} {x:Option Operand} {d:Int} {K:Int→Prop} (hR:Real φ s a w) (h:boundK s.env x d K) :
    ∃ n,K n∧((x=none∧n=d)∨∃ y k,x=some y∧a.eval y=.int k n):=by
  cases x with
  | none=>exact⟨d,h,.inl ⟨rfl,rfl⟩⟩
  | some y=>
    unfold boundK at h
    dsimp only at h
    obtain⟨e,hk,hh⟩:=evK_inv hR h
    replace hk:=valK_inv hh hk
    revert hk
    cases hx:a.eval y<;>intro hk<;>try exact hk.elim
    exact⟨_,hk,.inr ⟨y,_,rfl,hx⟩⟩
theorem run_bound {x : Option Operand} {n d:Int} {code:BoundsCode} {y:Nat} (h:(x=none∧n=d)∨∃ z k,x=some z∧a.eval z=.int k n) (h0:0≤n) (h1:n≤y) (hd:0≤d) :
    (match x.map a.eval with
      | some v=>Instr.sliceBound v y code
      | none=>pure d.toNat:Sem Nat).run P w=.ok n.toNat w:=by
  rcases h with⟨rfl,rfl⟩ | ⟨z,k,rfl,hz⟩
  · simp
  · simp[hz,Instr.sliceBound,asIntOf,h0,h1]
theorem op_slice {t : TypeId} {x:Operand} {lo hi mx:Option Operand} (hΓ:∀ t,TIOK P t (Γ t)) (hR:Real φ s a w) (h:opK Γ P pol (.slice t x lo hi mx) s K) (hn:Next φ s a w .light dst K next):Val P (Oper.mk dst (.slice t x lo hi mx) ty ps af gd) a w next:=by
  obtain⟨env,loc,H,O⟩:=s
  unfold opK at h
  cases mx with
  | some m=>exact h.elim
  | none=>
  dsimp only at h
  obtain⟨e,hk,hh⟩:=evK_inv hR h
  replace hk:=tyK_inv hk
  clear h
  cases hs:(Γ t).ty<;>rw[hs] at hk
  case slice et=>
    have ht:P.underlying t=some (.slice et):=ty_of hΓ hs rfl
    replace hk:=tyK_inv (valK_inv hh hk)
    replace hk:=other_elim hk
    obtain⟨ho,hk⟩:=hk
    obtain⟨i,hi',his,_⟩:=(tiok hΓ ho).2.info
    revert hk
    cases hx:a.eval x<;>intro hk<;>try exact hk.elim
    rename_i ad len cap
    obtain⟨h',hk,hhi⟩:=boundK_inv hR hk
    obtain⟨l',hk,hlo⟩:=boundK_inv hR hk
    replace hk:=andK_iff.1 hk
    obtain⟨h0,hk⟩:=hk
    replace hk:=andK_iff.1 hk
    obtain⟨h1,hk⟩:=hk
    replace hk:=andK_iff.1 hk
    obtain⟨h2,hk⟩:=hk
    refine val_intro (fun c hc=>by cases hc) ?_ (hn _ _ _ _ hk ⟨rfl,rfl⟩ hR rfl)
    have e1:=run_bound (P:=P) (w:=w) (code:=.sliceAcap) (y:=cap) hhi (by omega) h2 (by omega)
    have e2:=run_bound (P:=P) (w:=w) (code:=.sliceB) (y:=h'.toNat) hlo h0 (by omega) (by omega)
    have hb:(Instr.sliceBounds true len cap (lo.map a.eval) (hi.map a.eval) none).run P w=.ok (l'.toNat,h'.toNat,cap) w:=by
      rcases hhi with⟨rfl,rfl⟩ | ⟨z,k,rfl,hz⟩<;>rcases hlo with⟨rfl,rfl⟩ | ⟨z',k',rfl,hz'⟩<;>simp_all [Instr.sliceBounds,Result.andThen]
    simp[execOp,Instr.sliceAt,run_underlying ht,Result.andThen,Instr.slice,hx,hb,run_size hi',his]
  case array n et=>
    have ht:P.underlying t=some (.array n et):=ty_of hΓ hs rfl
    cases lo with
    | some _=>cases e<;>exact (valK_inv hh hk).elim
    | none=>
      cases hi with
      | some y=>
        replace hk:=tyK_inv (valK_inv hh hk)
        replace hk:=other_elim hk
        obtain⟨ho,hk⟩:=hk
        obtain⟨i,hi',his,_⟩:=(tiok hΓ ho).2.info
        have run:∀ ad (h:Int),a.eval x=.pointer (some ad)→(∃ k,a.eval y=.int k h)→0≤h→h≤(n:Int)→n ≠ 0→(execOp a.eval (Oper.mk dst (.slice t x none (some y) none) ty ps af gd)).run P w=.ok (.value (.slice (some ad) h.toNat n)) w:=by
          rintro ad h hx ⟨k,hz⟩ h0 h1 _
          have hb:(Instr.sliceBounds false n n none (some (a.eval y)) none).run P w=.ok (0,h.toNat,n) w:=by
            rw[hz]
            simp[Instr.sliceBounds,Instr.sliceBound,asIntOf,h0,h1,Result.andThen]
          simp[execOp,Instr.sliceAt,run_underlying ht,Result.andThen,Instr.sureAddr,hx,hb,run_size hi',Addr.add]
        cases e with
        | any=>exact hk.elim
        | v z=>
          cases z<;>try exact hk.elim
          rename_i p
          cases p with
          | none=>exact hk.elim
          | some ad=>
            obtain⟨h',hk,hhi⟩:=boundK_inv hR hk
            replace hk:=andK_iff.1 hk
            obtain⟨h0,hk⟩:=hk
            replace hk:=andK_iff.1 hk
            obtain⟨h1,hk⟩:=hk
            replace hk:=andK_iff.1 hk
            obtain⟨h2,hk⟩:=hk
            rcases hhi with⟨hn',_⟩ | ⟨y',k,hy,hz⟩
            · cases hn'
            · cases hy
              exact val_intro (fun c hc=>by cases hc) (run ad h' (Option.some.inj hh) ⟨k,hz⟩ h0 h1 h2) (hn _ _ _ _ hk ⟨rfl,rfl⟩ hR rfl)
        | l z j=>
          cases z<;>try exact hk.elim
          rename_i p
          cases p with
          | none=>exact hk.elim
          | some ad=>
            obtain⟨h',hk,hhi⟩:=boundK_inv hR hk
            replace hk:=andK_iff.1 hk
            obtain⟨h0,hk⟩:=hk
            replace hk:=andK_iff.1 hk
            obtain⟨h1,hk⟩:=hk
            replace hk:=andK_iff.1 hk
            obtain⟨h2,hk⟩:=hk
            obtain⟨hx,hat⟩:=hh
            rcases hhi with⟨hn',_⟩ | ⟨y',k,hy,hz⟩
            · cases hn'
            · cases hy
              refine val_intro (fun c hc=>by cases hc) (run ad h' (Option.some.inj hx) ⟨k,hz⟩ h0 h1 h2) (hn _ _ _ _ hk ⟨rfl,rfl⟩ hR ⟨rfl,?_⟩)
              rcases hat with hat | ⟨b',hb',hp⟩
              · exact .inl hat
              refine .inr ⟨b',hb',?_⟩
              rcases hp with⟨_,hp⟩ | ⟨_,_,_,hp⟩
              · cases hp;exact .inr ⟨_,_,_,rfl⟩
              · cases hp
      | none=>
        replace hk:=tyK_inv (valK_inv hh hk)
        replace hk:=other_elim hk
        obtain⟨ho,hk⟩:=hk
        obtain⟨i,hi',his,_⟩:=(tiok hΓ ho).2.info
        have run:∀ ad,a.eval x=.pointer (some ad)→n ≠ 0→(execOp a.eval (Oper.mk dst (.slice t x none none none) ty ps af gd)).run P w=.ok (.value (.slice (some ad) n n)) w:=by
          intro ad hx _
          simp[execOp,Instr.sliceAt,run_underlying ht,Result.andThen,Instr.sureAddr,hx,Instr.sliceBounds,run_size hi',Addr.add]
        cases e with
        | any=>exact hk.elim
        | v z=>
          cases z<;>try exact hk.elim
          rename_i p
          cases p with
          | none=>exact hk.elim
          | some ad=>
            replace hk:=andK_iff.1 hk
            obtain⟨h0,hk⟩:=hk
            exact val_intro (fun c hc=>by cases hc) (run ad (Option.some.inj hh) h0) (hn _ _ _ _ hk ⟨rfl,rfl⟩ hR rfl)
        | l z j=>
          cases z<;>try exact hk.elim
          rename_i p
          cases p with
          | none=>exact hk.elim
          | some ad=>
            replace hk:=andK_iff.1 hk
            obtain⟨h0,hk⟩:=hk
            obtain⟨hx,hat⟩:=hh
            refine val_intro (fun c hc=>by cases hc) (run ad (Option.some.inj hx) h0) (hn _ _ _ _ hk ⟨rfl,rfl⟩ hR ⟨rfl,?_⟩)
            rcases hat with hat | ⟨b',hb',hp⟩
            · exact .inl hat
            refine .inr ⟨b',hb',?_⟩
            rcases hp with⟨_,hp⟩ | ⟨_,_,_,hp⟩
            · cases hp;exact .inr ⟨_,_,_,rfl⟩
            · cases hp
  all_goals exact (valK_inv hh hk).elim
theorem op_builtin {b : Builtin} {args:Array Operand} {ts:Array TypeId} (hkd:Op.kd (.call { callee:=.builtin b,args,argTypes:=ts })=.light) (hΓ:∀ t,TIOK P t (Γ t)) (hR:Real φ s a w) (h:opK Γ P pol (.call { callee:=.builtin b,args,argTypes:=ts }) s K) (hn:Next φ s a w (Op.kd (.call { callee:=.builtin b,args,argTypes:=ts })) dst K next):Val P (Oper.mk dst (.call { callee:=.builtin b,args,argTypes:=ts }) ty ps af gd) a w next:=by
  obtain⟨env,loc,H,O⟩:=s
  obtain⟨args⟩:=args
  obtain⟨ts⟩:=ts
  unfold opK at h
  have main:∀ v,Op.kd (.call { callee:=.builtin b,args:=⟨args⟩,argTypes:=⟨ts⟩ })=.light→(∀ cs,(builtin b ⟨ts⟩ ty cs ⟨args.map a.eval⟩).run P w=.ok (.value v) w)→K ⟨env,loc,H,O⟩ (.v v)→Val P (Oper.mk dst (.call { callee:=.builtin b,args:=⟨args⟩,argTypes:=⟨ts⟩ }) ty ps af gd) a w next:=by
    intro v hkd hrun hk
    refine val_intro (fun c hc=>by cases hc) ?_ (hn _ _ _ _ hk (by rw[hkd];exact⟨rfl,rfl⟩) hR rfl)
    have e1:(⟨args⟩:Array Operand).map a.eval=⟨args.map a.eval⟩:=by simp
    simp only[execOp,resolve,Sem.run_bind,Sem.run_pure,Result.andThen,invoke,e1]
    exact hrun _
  cases b<;>first | (cases hkd;done) | exact h.elim | skip
  case len=>
    match args,h with
    | [x],h=>
      match ts,h with
      | [t],h=>
        replace h:=tyK_inv h
        obtain⟨e,hk,hh⟩:=evK_inv hR h
        replace hk:=valK_inv hh hk
        cases hs:(Γ t).ty<;>rw[hs] at hk<;>try exact hk.elim
        · have ht:P.underlying t=some .string:=ty_of hΓ hs rfl
          revert hk
          cases hx:a.eval x<;>intro hk<;>try exact hk.elim
          exact main _ rfl (fun _=>by simp[builtin,Builtin.len_,run_underlying ht,hx,Result.andThen,goInt]) hk
        · have ht:P.underlying t=some (.slice _):=ty_of hΓ hs rfl
          revert hk
          cases hx:a.eval x<;>intro hk<;>try exact hk.elim
          exact main _ rfl (fun _=>by simp[builtin,Builtin.len_,run_underlying ht,hx,Result.andThen,goInt]) hk
        · have ht:P.underlying t=some (.array _ _):=ty_of hΓ hs rfl
          exact main _ rfl (fun _=>by simp[builtin,Builtin.len_,run_underlying ht,Result.andThen,goInt]) hk
  case cap=>
    match args,h with
    | [x],h=>
      match ts,h with
      | [t],h=>
        replace h:=tyK_inv h
        obtain⟨e,hk,hh⟩:=evK_inv hR h
        replace hk:=valK_inv hh hk
        cases hs:(Γ t).ty<;>rw[hs] at hk<;>try exact hk.elim
        have ht:P.underlying t=some (.slice _):=ty_of hΓ hs rfl
        revert hk
        cases hx:a.eval x<;>intro hk<;>try exact hk.elim
        exact main _ rfl (fun _=>by simp[builtin,Builtin.cap_,run_underlying ht,hx,Result.andThen,goInt]) hk
  case min=>
    match args,h with
    | [x,y],h=>
      obtain⟨e,hk,hh⟩:=evK_inv hR h
      replace hk:=valK_inv hh hk
      obtain⟨e,hk,hh⟩:=evK_inv hR hk
      replace hk:=valK_inv hh hk
      revert hk
      cases hx:a.eval x<;>intro hk<;>try exact hk.elim
      revert hk
      cases hy:a.eval y<;>intro hk<;>try exact hk.elim
      exact main _ rfl (fun _=>by simp[builtin,Builtin.min_,Builtin.min2,hx,hy,Result.andThen]) hk
  case max=>
    match args,h with
    | [x,y],h=>
      obtain⟨e,hk,hh⟩:=evK_inv hR h
      replace hk:=valK_inv hh hk
      obtain⟨e,hk,hh⟩:=evK_inv hR hk
      replace hk:=valK_inv hh hk
      revert hk
      cases hx:a.eval x<;>intro hk<;>try exact hk.elim
      revert hk
      cases hy:a.eval y<;>intro hk<;>try exact hk.elim
      exact main _ rfl (fun _=>by simp[builtin,Builtin.max_,Builtin.max2,hx,hy,Result.andThen]) hk
end
end Go.Proofs.YtgbhgfdgifkdhaaGreat.X

namespace Go.Proofs.YtgbhgfdgifkdhaaGreat.X
open Go PH
section
variable {Γ : TypeId → TI} {P : Program} {φ : Fr} {s : S} {a : Act} {w : World} {r : Option Nat} {next : Act → World → Prop} {Q : Exit → Act → World → Prop} {K : S → En → Prop} {pol : Pol}
variable {dst : Option Tmp} {ty : TypeId} {ps : String} {af : Array Edge} {gd : Option (Nat × Bool)}
theorem Real.call (hR : Real φ s a w) {w':World} {H' O':PH} (p:Post w s.H s.O w' H' O'):Real φ ⟨s.env,s.loc,H',O'⟩ a w':=by
  have hsz:=hR.frm.size
  refine⟨hR.size,hR.env,?_,hR.apart,p.inH,p.inM,p.dis,hR.sub.trans p.sub,?_,?_,hR.uniq,?_⟩
  · intro i b hb
    obtain⟨h1,h2,h3,h4⟩:=hR.loc i b hb
    have hlt:=hR.loc_lt hb
    obtain⟨o1,o2⟩:=p.old b.n hlt h2
    exact⟨(p.frm.block b.n hlt h2).trans h1,o2,fun hp=>by dsimp only;rw[o1];exact h3 hp,fun hp=>by dsimp only;rw[o1];exact h4 hp⟩
  · intro n hn hm
    obtain⟨k1,k2⟩:=hR.old n hn hm
    obtain⟨o1,o2⟩:=p.old n (by omega) k2
    exact⟨o1.trans k1,o2⟩
  · refine⟨p.frm.os.trans hR.frm.os,p.frm.tape.trans hR.frm.tape,p.frm.output.trans hR.frm.output,Nat.le_trans hsz p.frm.size,fun n hn hm=>?_⟩
    exact (p.frm.block n (by omega) (hR.old n hn hm).2).trans (hR.frm.block n hn hm)
  · intro d hd
    obtain⟨q,q1,q2,q3,q4,q5,q6⟩:=hR.marks d hd
    have hlt:=(Array.getElem?_eq_some_iff.1 q2).1
    obtain⟨o1,o2⟩:=p.old q hlt q5
    exact⟨q,q1,(p.frm.block q hlt q5).trans q2,q3,by dsimp only;rw[o1];exact q4,o2,q6⟩
theorem Grow.of_post {env : List En} {w':World} {H' O':PH} (p:Post w s.H s.O w' H' O'):Grow s w ⟨env,s.loc,H',O'⟩ w':=
  ⟨⟨[],by simp,by simp⟩,p.sub,p.frm.size,fun n hn ho=>⟨p.frm.block n hn ho,p.old n hn ho⟩⟩
theorem op_call {f : Operand} {args:Array Operand} {ts:Array TypeId} (hR:Real φ s a w) (h:opK Γ P pol (.call { callee:=.value f,args,argTypes:=ts }) s K) (hn:Next φ s a w .grow dst K next):(Oper.mk dst (.call { callee:=.value f,args,argTypes:=ts }) ty ps af gd).wpIn (wide r) 0 P a w next Q:=by
  obtain⟨env,loc,H,O⟩:=s
  obtain⟨args⟩:=args
  unfold opK at h
  dsimp only at h
  obtain⟨e,hk,hh⟩:=evK_inv hR h
  replace hk:=valK_inv hh hk
  replace hk:=evsK_inv hR hk
  revert hk
  cases hx:a.eval f<;>intro hk<;>try exact hk.elim
  rename_i fn first cap
  obtain⟨first⟩:=first
  obtain⟨cap⟩:=cap
  replace hk:=appK_iff.1 hk
  have e1:(⟨args⟩:Array Operand).map a.eval=⟨args.map a.eval⟩:=by simp
  cases fn with
  | func g=>
    replace hk:=appK_iff.1 hk
    have hk2:=hk
    unfold Cl at hk2
    obtain⟨hent,hcl⟩:=hk2
    refine wpIn_enter (fun c hc=>by cases hc) (w':=w) (f:=g) (args:=(first++args.map a.eval++cap).toArray) ?_ ?_
    · have:=hent (first++args.map a.eval++cap).toArray w
      simp only[execOp,resolve,Deferred.ofValue,hx,Sem.run_bind,Sem.run_pure,Result.andThen,invoke,e1]
      simpa using this
    · refine (hcl w hR.inH hR.inO hR.dis).mono ?_
      rintro e w' ⟨v,H',M',rfl,hp,hq⟩
      exact⟨v,rfl,hn _ _ _ _ hq (.of_post hp) (hR.call hp) rfl⟩
  | yield l=>
    unfold Yl at hk
    obtain⟨fn,tmps,as,body,hy,hr⟩:=hk w hR.inH hR.inO hR.dis
    refine wpIn_round (fun c hc=>by cases hc) (w':=w) (l:=l) (f:=fn) (tmps:=tmps) (as:=as) (body:=body) ?_ ?_
    · simp only[execOp,resolve,Deferred.ofValue,hx,Sem.run_bind,Sem.run_pure,Result.andThen,invoke,e1]
      simpa using hy
    · refine hr.mono ?_
      rintro e w' ⟨v,H',M',rfl,hp,hq⟩
      exact⟨v,rfl,hn _ _ _ _ hq (.of_post hp) (hR.call hp) rfl⟩
  | method _=>exact hk.elim
  | methodOf _ _=>exact hk.elim
  | via _ _ _ _=>exact hk.elim
theorem fold_over (off : Nat):∀ (vs:List Value) (k:Nat) (cs:List Value),off+k+vs.length≤cs.length →
    (vs.zipIdx k).foldl (fun (c:Array Value) (x:Value × Nat)=>c.setIfInBounds (off+x.2) x.1) ⟨cs⟩=⟨cs.take (off+k)++vs++cs.drop (off+k+vs.length)⟩
  | [],k,cs,_=>by simp
  | v::vs,k,cs,h=>by
    rw[List.length_cons] at h
    rw[List.zipIdx_cons,List.foldl_cons]
    have e:(⟨cs⟩:Array Value).setIfInBounds (off+k) v=⟨cs.set (off+k) v⟩:=by simp
    rw[e,fold_over off vs (k+1) (cs.set (off+k) v) (by simp;omega)]
    have e2:=list_seg_step cs (off+k) v vs (by simpa using h)
    congr 1
theorem run_fill (place : Nat→Option (Nat × Nat)) (pK:Nat→(Nat→Nat→Prop)→Prop) (hp:∀ i K,pK i K→∃ off sz,place i=some (off,sz)∧K off sz) {env:List En} (hR:Real φ ⟨env,s.loc,s.H,s.O⟩ a w) :
    ∀ (l:List (Nat × Operand)) (cs:List Value) (K:List Value→Prop),fillK env pK cs l K→∃ cs',K cs'∧Instr.fill place ⟨cs⟩ (l.map fun (i,x)=>(i,a.eval x))=some ⟨cs'⟩
  | [],cs,K,h=>⟨cs,h,rfl⟩
  | (i,x)::l,cs,K,h=>by
    obtain⟨off,sz,h1,h⟩:=hp _ _ h
    obtain⟨e,hk,hh⟩:=evK_inv hR h
    obtain⟨hk,_⟩:=cellsK_inv (valK_inv hh hk)
    replace hk:=lenK_iff.1 hk
    rw[Nat.zero_add] at hk
    replace hk:=andK_iff.1 hk
    obtain⟨h2,hk⟩:=hk
    obtain⟨h3,hk⟩:=overK_iff.1 hk
    obtain⟨cs',h4,h5⟩:=run_fill place pK hp hR l _ K hk
    refine⟨cs',h4,?_⟩
    have hsz:(a.eval x).cells.size=sz:=by rw[← h2,Array.length_toList]
    have hle:¬ (off+sz > cs.length):=by omega
    have hf:(a.eval x).cells.zipIdx.foldl (fun (c:Array Value) (x:Value × Nat)=>c.setIfInBounds (off+x.2) x.1) ⟨cs⟩=⟨cs.take off++(a.eval x).cells.toList++cs.drop (off+(a.eval x).cells.toList.length)⟩:=by
      have:=fold_over off (a.eval x).cells.toList 0 cs (by simpa using h3)
      rw[← Array.foldl_toList,Array.toList_zipIdx]
      simpa using this
    rw[List.map_cons]
    unfold Instr.fill
    simp only[h1,hsz,ne_eq,not_true_eq_false,decide_false,Bool.false_or,decide_eq_true_eq,len_of_list]
    rw[if_neg hle]
    exact (congrArg (fun c=>Instr.fill place c _) hf).trans h5
theorem op_buildSlice {t : TypeId} {n:Nat} {l:Array (Nat × Operand)} (hΓ:∀ t,TIOK P t (Γ t)) (hR:Real φ s a w) (h:opK Γ P pol (.buildSlice t n l) s K) (hn:Next φ s a w .alc dst K next):(Oper.mk dst (.buildSlice t n l) ty ps af gd).wpIn (wide r) 0 P a w next Q:=by
  obtain⟨env,loc,H,O⟩:=s
  obtain⟨l⟩:=l
  unfold opK at h
  dsimp only at h
  replace h:=tyK_inv h
  cases hs:(Γ t).ty<;>rw[hs] at h<;>try exact h.elim
  rename_i et
  have ht:P.underlying t=some (.slice et):=ty_of hΓ hs rfl
  replace h:=tyK_inv h
  replace h:=other_elim h
  obtain⟨ho,h⟩:=h
  replace h:=andK_iff.1 h
  obtain⟨hn1,h⟩:=h
  replace h:=andK_iff.1 h
  obtain⟨hn2,h⟩:=h
  obtain⟨hinfo,_,hzl⟩:=(tiok hΓ ho).2
  obtain⟨i,hi,his,_,z,hz,hzc⟩:=hinfo
  have hrep:∀ (n:Nat) (z:List Value) (K:List Value→Prop),repK n z K→K (List.replicate n z).flatten:=by
    intro n
    induction n with
    | zero=>intro z K h;exact h
    | succ n ih=>intro z K h;have:=appK_iff.1 (ih z _ h);rw[List.replicate_succ,List.flatten_cons];exact this
  replace h:=hrep _ _ _ h
  obtain⟨cs,h,hf⟩:=run_fill (s:=⟨env,loc,H,O⟩) (fun i=>some (i*(Γ et).size,(Γ et).size)) _ (fun i K h=>⟨_,_,rfl,h⟩) hR _ _ _ h
  obtain⟨s',f,hk,he,hR',_,hsl⟩:=newK_inv hR h
  refine wpIn_value (fun c hc=>by cases hc) (v:=.slice (some ⟨w.heap.size,0,none⟩) n n) (w':=w.alloc (.cells ⟨cs⟩ et (0,0))) ?_ (hn _ _ _ _ hk he hR' (hsl 0 n n))
  have hlim:¬ (16777216 < n*i.size):=by
    have:n*i.size≤100000*100:=Nat.mul_le_mul hn1 (by rw[his];exact hn2)
    omega
  have e1:(⟨l⟩:Array (Nat × Operand)).map (fun (i,x)=>(i,a.eval x))=⟨l.map fun (i,x)=>(i,a.eval x)⟩:=by simp
  have hzs:z.cells.size=i.size:=by rw[his,← hzl,← hzc,Array.length_toList]
  have e2:madeCells z.cells (n*i.size)=⟨(List.replicate n (Γ et).zero).flatten⟩:=by
    rw[← hzs,made_flatten,hzc]
  simp only[execOp,Instr.buildSlice,e1,Sem.run_bind,run_underlying ht,Result.andThen,run_size hi]
  rw[if_neg (by simpa using hlim)]
  by_cases h0:n*i.size=0
  · rw[if_pos h0]
    have e4:(Array.range (n*i.size)).map (fun x=>(#[]:Array Value)[x % (#[]:Array Value).size]!)=⟨(List.replicate n (Γ et).zero).flatten⟩:=by
      rw[← e2];simp[h0,madeCells,Array.range_zero']
    simp only[Sem.run_bind,Sem.run_pure,Result.andThen]
    rw[e4,his,hf]
    simp[run_newRow,Result.andThen]
  · rw[if_neg h0]
    have e4:(Array.range (n*i.size)).map (fun x=>z.cells[x % z.cells.size]!)=⟨(List.replicate n (Γ et).zero).flatten⟩:=e2
    simp only[Sem.run_bind,Sem.run_pure,run_zero hi hz,Result.andThen]
    rw[e4,his,hf]
    simp[run_newRow,Result.andThen]
theorem op_build {t : TypeId} {l:Array (Nat × Operand)} (hΓ:∀ t,TIOK P t (Γ t)) (hR:Real φ s a w) (h:opK Γ P pol (.build t l) s K) (hn:Next φ s a w .light dst K next):Val P (Oper.mk dst (.build t l) ty ps af gd) a w next:=by
  obtain⟨env,loc,H,O⟩:=s
  obtain⟨l⟩:=l
  unfold opK at h
  dsimp only at h
  replace h:=tyK_inv h
  have e1:(⟨l⟩:Array (Nat × Operand)).map (fun (i,x)=>(i,a.eval x))=⟨l.map fun (i,x)=>(i,a.eval x)⟩:=by simp
  cases hs:(Γ t).ty<;>rw[hs] at h<;>try exact h.elim
  · rename_i len et
    have ht:P.underlying t=some (.array len et):=ty_of hΓ hs rfl
    obtain⟨i,hi,his,_,z,hz,hzc⟩:=(tiok hΓ (t:=t) (by rw[hs];rfl)).2.info
    replace h:=tyK_inv h
    replace h:=other_elim h
    obtain⟨ho,h⟩:=h
    obtain⟨i',hi',his',_⟩:=(tiok hΓ ho).2.info
    obtain⟨cs,h,hf⟩:=run_fill (s:=⟨env,loc,H,O⟩) (fun i=>some (i*(Γ et).size,(Γ et).size)) _ (fun i K h=>⟨_,_,rfl,h⟩) hR _ _ _ h
    refine val_intro (fun c hc=>by cases hc) (v:=.agg ⟨cs⟩) ?_ (hn _ _ _ _ h ⟨rfl,rfl⟩ hR rfl)
    simp only[execOp,Instr.build,e1,Sem.run_bind,run_underlying ht,Result.andThen,run_zero hi hz,run_size hi']
    rw[his',show z.cells=⟨(Γ t).zero⟩ by rw[← hzc],hf]
    simp
  · rename_i fs
    obtain⟨fields,ht,hfl,hall⟩:=ty_of hΓ hs rfl
    obtain⟨i,hi,his,_,z,hz,hzc⟩:=(tiok hΓ (t:=t) (by rw[hs];rfl)).2.info
    have hmap:∀ (l:List Field),(∀ f∈l,(P.info? f.type).isSome=true)→(l.mapM fun f=>(do pure (f.offset,← sizeOf f.type):Sem (Nat × Nat))).run P w=.ok (l.map fun f=>(f.offset,((P.info? f.type).map (·.size)).getD 0)) w:=by
      intro l
      induction l with
      | nil=>intro _;rfl
      | cons f l ih=>
        intro h
        obtain⟨i,hi⟩:=Option.isSome_iff_exists.1 (h f (by simp))
        rw[List.mapM_cons]
        simp only[Sem.run_bind,run_size hi,Result.andThen,Sem.run_pure,ih fun f hf=>h f (by simp[hf])]
        simp[hi]
    have hmapA:(fields.mapM fun f=>(do pure (f.offset,← sizeOf f.type):Sem (Nat × Nat))).run P w=.ok ⟨fields.toList.map fun f=>(f.offset,((P.info? f.type).map (·.size)).getD 0)⟩ w:=by
      rw[Array.mapM_eq_mapM_toList]
      have h2:=hmap _ hall
      rw[Sem.run_map,h2]
      rfl
    obtain⟨cs,h,hf⟩:=run_fill (s:=⟨env,loc,H,O⟩) (fun i=>(⟨fields.toList.map fun f=>(f.offset,((P.info? f.type).map (·.size)).getD 0)⟩:Array (Nat × Nat))[i]?) _ (fun i K h=>by
      obtain⟨p,hp,h⟩:=getK_iff.1 h
      obtain⟨off,ft⟩:=p
      replace h:=tyK_inv h
      replace h:=other_elim h
      obtain⟨ho,h⟩:=h
      obtain⟨f,hf,hfo,hft⟩:=place_field fs hfl hp
      obtain⟨i',hi',his',_⟩:=(tiok hΓ ho).2.info
      dsimp only at hfo hft hi' his' h
      refine⟨off,(Γ ft).size,?_,h⟩
      have hf':fields.toList[i]?=some f:=by rw[Array.getElem?_toList];exact hf
      simp[List.getElem?_toArray,List.getElem?_map,hf,hfo,hft,hi',his']) hR _ _ _ h
    refine val_intro (fun c hc=>by cases hc) (v:=.agg ⟨cs⟩) ?_ (hn _ _ _ _ h ⟨rfl,rfl⟩ hR rfl)
    simp only[execOp,Instr.build,e1,Sem.run_bind,run_underlying ht,Result.andThen,run_zero hi hz,hmapA]
    rw[show z.cells=⟨(Γ t).zero⟩ by rw[← hzc],hf]
    simp
end
end Go.Proofs.YtgbhgfdgifkdhaaGreat.X

namespace Go.Proofs.YtgbhgfdgifkdhaaGreat.X
open Go PH
section
variable {Γ : TypeId → TI} {P : Program} {φ : Fr} {s : S} {a : Act} {w : World} {r : Option Nat} {next : Act → World → Prop} {Q : Exit → Act → World → Prop} {K : S → En → Prop} {pol : Pol}
variable {dst : Option Tmp} {ty : TypeId} {ps : String} {af : Array Edge} {gd : Option (Nat × Bool)}
theorem zeroCells_eq (z : Value) (zl:List Value) (h:z.cells.toList=zl) (n:Nat):Builtin.zeroCells z.cells n=⟨(List.replicate n zl).flatten⟩:=by
  have:=made_flatten z.cells n
  rw[h] at this
  rw[← this]
  rfl
theorem Real.drew (hR : Real φ s a w):Real φ s a w.drew:=
  ⟨hR.size,hR.env,hR.loc,hR.apart,hR.inH,hR.inO,hR.dis,hR.sub,hR.old,⟨hR.frm.os,hR.frm.tape,hR.frm.output,hR.frm.size,hR.frm.block⟩,hR.uniq,hR.marks⟩
theorem stp_own {s : S} {w:World} {n:Nat} {o o':Obj} {env:List En} (hb:s.O n=some o) (hR:Real φ s a w) {w':World} (hw:∀ k,k ≠ n→w'.heap[k]?=w.heap[k]?):Stp .free s w ⟨env,s.loc,s.H,ins s.O n o'⟩ w':=
  ⟨Sub.refl _,fun m _ h1 h2 h3=>by
    have:m ≠ n:=fun e=>by rw[e,hb] at h2;cases h2
    exact⟨hw m this,h1,by dsimp only;rw[ins_ne _ _ this];exact h2,h3⟩⟩
theorem stp_same {s : S} {w:World} {env:List En}:Stp .free s w ⟨env,s.loc,s.H,s.O⟩ w:=⟨Sub.refl _,fun m _ h1 h2 h3=>⟨rfl,h1,h2,h3⟩⟩
theorem stp_new {s : S} {w:World} {env:List En} {o:Obj} {w':World} (hw:∀ k,k < w.heap.size→w'.heap[k]?=w.heap[k]?):Stp .free s w ⟨env,s.loc,s.H,ins s.O w.heap.size o⟩ w':=
  ⟨Sub.refl _,fun m hm h1 h2 h3=>⟨hw m hm,h1,by dsimp only;rw[ins_ne _ _ (by omega)];exact h2,h3⟩⟩
theorem op_append {args : Array Operand} {ts:Array TypeId} (hΓ:∀ t,TIOK P t (Γ t)) (hR:Real φ s a w) (h:opK Γ P pol (.call { callee:=.builtin .append,args,argTypes:=ts }) s K) (hn:Next φ s a w .free dst K next):(Oper.mk dst (.call { callee:=.builtin .append,args,argTypes:=ts }) ty ps af gd).wpIn (wide r) 0 P a w next Q:=by
  obtain⟨env,loc,H,O⟩:=s
  obtain⟨args⟩:=args
  obtain⟨ts⟩:=ts
  unfold opK at h
  dsimp only at h
  match args,h with
  | [x,y],h=>
  match ts,h with
  | [t,u],h=>
  replace h:=tyK_inv h
  replace h:=tyK_inv h
  obtain⟨e,hk,hh⟩:=evK_inv hR h
  replace h:=valK_inv hh hk
  obtain⟨e,hk,hh⟩:=evK_inv hR h
  replace h:=valK_inv hh hk
  cases hs:(Γ t).ty<;>rw[hs] at h<;>try exact h.elim
  rename_i et
  have ht:P.underlying t=some (.slice et):=ty_of hΓ hs rfl
  cases hs':(Γ u).ty<;>rw[hs'] at h<;>try exact h.elim
  rename_i et'
  have hu:P.underlying u=some (.slice et'):=ty_of hΓ hs' rfl
  replace h:=tyK_inv h
  obtain⟨ho,h⟩:=other_elim h
  obtain⟨i,hi,his,hib,z,hz,hzc⟩:=(tiok hΓ ho).2.info
  unfold appendK at h
  obtain⟨base,sLen,sCap,src,n,c,news,hsv,hxv,hnl,hone,hsn,hsr,hbound,hzl,h0,hroom,hgrow⟩:=h
  have e1:(⟨[x,y]⟩:Array Operand).map a.eval=#[a.eval x,a.eval y]:=by simp
  have main:∀ v w' O',(Builtin.append_ #[t,u] ty #[a.eval x,a.eval y]).run P w=.ok v w'→K ⟨env,loc,H,O'⟩ (.v v)→Real φ ⟨env,loc,H,O'⟩ a w'→Stp .free ⟨env,loc,H,O⟩ w ⟨env,loc,H,O'⟩ w'→(Oper.mk dst (.call { callee:=.builtin .append,args:=⟨[x,y]⟩,argTypes:=⟨[t,u]⟩ }) ty ps af gd).wpIn (wide r) 0 P a w next Q:=by
    intro v w' O' hrun hk hR' hst
    refine wpIn_value (fun c hc=>by cases hc) (v:=v) (w':=w') ?_ (hn _ _ _ _ hk hst hR' rfl)
    have e2:(⟨[t,u]⟩:Array TypeId)=#[t,u]:=rfl
    simp only[execOp,resolve,Sem.run_bind,Sem.run_pure,Result.andThen,invoke,e1,e2,builtin,hrun]
  have hb:(sLen+n)*i.bytes+(sLen+n)≤140737488355328:=by rw[hib,← Nat.mul_succ];exact hbound
  have hrdcells:∀ (w':World),(∀ b:Nat,w'.heap[b]?=w.heap[b]?)→∀ (q:Option Addr) (m k:Nat) (cs:List Value),cs.length=m*(Γ et).size→(q=none→m=0)→(∀ ad,q=some ad→0 < m→Rd H O ad (m*(Γ et).size) cs)→(Builtin.firstCells i.size m (.slice q m k)).run P w'=.ok cs.toArray w':=by
    intro w' hw q m k cs hl hq hr
    cases q with
    | none=>
      have:=hq rfl
      subst this
      simp at hl
      subst hl
      exact run_firstCells_none w' i.size 0 0 k
    | some ad=>
      rcases Nat.eq_zero_or_pos m with hm0 | hm0
      · subst hm0
        simp at hl
        subst hl
        exact run_firstCells_some w' i.size 0 ad 0 k [] (by simp) (fun j v hj=>by simp at hj)
      obtain⟨h1,h2,h3⟩:=(hr ad rfl hm0).cells hR.inH hR.inO
      rw[h1]
      refine run_firstCells_some w' i.size m ⟨ad.block,ad.off,none⟩ m k cs (by rw[his];exact hl) (fun j v hj=>?_)
      rw[add_at]
      have:=h3 j v hj
      simp only[World.cell?,hw] at this ⊢
      exact this
  have hSrc:Src P i.size u (a.eval y) n news w:=by
    rw[hxv]
    exact⟨.inl ⟨et',hu⟩,fun _=>rfl,by
      have:=hrdcells w (fun _=>rfl) src n c news hnl hsn hsr
      exact this,by
      have:=hrdcells w.drew (fun _=>rfl) src n c news hnl hsn hsr
      exact this,by rw[his];exact hnl,hone⟩
  by_cases hle:sLen+n≤sCap
  · by_cases hn0:n=0
    · subst hn0
      have hnews:news=[]:=by simpa using hnl
      subst hnews
      refine main _ _ O ?_ (h0 rfl (by omega)) hR stp_same
      rw[hsv,hxv]
      have hf:=hrdcells w (fun _=>rfl) src 0 c [] (by simp) (fun _=>rfl) (fun ad had h=>absurd h (by omega))
      cases base with
      | none=>simp[Builtin.append_,run_underlying ht,run_underlying hu,Result.andThen,run_size hi,Builtin.lenOf,show sLen≤sCap by omega,hf]
      | some ad=>simp[Builtin.append_,run_underlying ht,run_underlying hu,Result.andThen,run_size hi,Builtin.lenOf,show sLen≤sCap by omega,hf,storeCells]
    · obtain⟨b,off,cs,bt,rfl,hO,hlen,hk⟩:=hroom (by omega) hle
      have hst:=run_storeCells_at (P:=P) b (off+sLen*(Γ et).size) bt news 0 ⟨cs⟩ w (hR.inO b _ hO) (by simp;rw[hnl];omega) hone
      refine main _ _ _ ?_ hk (hR.set_own hO) (stp_own hO hR fun k hk=>setRow_heap_ne w b _ hk)
      rw[hsv,hxv]
      have hf:=hrdcells w (fun _=>rfl) src n c news hnl hsn hsr
      simp only[Nat.add_zero,hnl] at hst
      rw[his] at hf
      simp[Builtin.append_,run_underlying ht,run_underlying hu,Result.andThen,run_size hi,Builtin.lenOf,hle,add_at,his,hf,hst]
  · obtain⟨olds,hol,hbn,hbr,hk⟩:=hgrow (by omega)
    have hold:=hrdcells w.drew (fun _=>rfl) base sLen sCap olds hol hbn (fun ad had _=>hbr ad had)
    have hcap:=nextslicecap_le (need:=sLen+n) (old:=sCap) (by omega)
    have hfit:Builtin.nextslicecap (sLen+n) sCap*i.bytes≤281474976710656:=by
      refine Nat.le_trans (Nat.mul_le_mul_right _ hcap) ?_
      rw[Nat.mul_assoc];omega
    have hrun:=run_append_grow_src w t u ty et i z ht hi hz base sLen sCap olds hold (a.eval y) n news hSrc (by omega) (by omega) hfit
    have hge:=grownCap_ge w (sLen+n) sCap et
    rw[zeroCells_eq z _ hzc,← hsv] at hrun
    have e3:((olds++news).toArray++(⟨(List.replicate (grownCap w (sLen+n) sCap et - (sLen+n)) (Γ et).zero).flatten⟩:Array Value))=⟨olds++news++(List.replicate (grownCap w (sLen+n) sCap et - (sLen+n)) (Γ et).zero).flatten⟩:=by
      apply Array.ext';simp
    rw[e3] at hrun
    have hRd:=hR.drew.alloc_own (.cells ⟨olds++news++(List.replicate (grownCap w (sLen+n) sCap et - (sLen+n)) (Γ et).zero).flatten⟩ et (0,0))
    exact main _ _ _ hrun (hk w.heap.size _ (hR.inH.none (Nat.le_refl _)) (hR.inO.none (Nat.le_refl _)) hge) hRd (stp_new fun k hk=>alloc_old w.drew _ hk)
theorem rd_first {H O : PH} (hH:In H w) (hO:In O w) {q:Option Addr} {sz m:Nat} {cs:List Value} (hl:cs.length=m*sz) (hq:q=none→m=0) (hr:∀ ad,q=some ad→Rd H O ad (m*sz) cs):∀ k j,(Builtin.firstCells sz m (.slice q k j)).run P w=.ok cs.toArray w:=by
  intro k j
  cases q with
  | none=>
    have:=hq rfl
    subst this
    simp at hl
    subst hl
    simp[Builtin.firstCells]
  | some ad=>
    obtain⟨h1,h2,h3⟩:=(hr ad rfl).cells hH hO
    rw[h1]
    have:=run_loadCells_list (P:=P) w ⟨ad.block,ad.off,none⟩ cs (fun j v hj=>by rw[add_at];exact h3 j v hj)
    rw[hl] at this
    simpa[Builtin.firstCells] using this
theorem op_copy {args : Array Operand} {ts:Array TypeId} (hΓ:∀ t,TIOK P t (Γ t)) (hR:Real φ s a w) (h:opK Γ P pol (.call { callee:=.builtin .copy,args,argTypes:=ts }) s K) (hn:Next φ s a w .free dst K next):(Oper.mk dst (.call { callee:=.builtin .copy,args,argTypes:=ts }) ty ps af gd).wpIn (wide r) 0 P a w next Q:=by
  obtain⟨env,loc,H,O⟩:=s
  obtain⟨args⟩:=args
  obtain⟨ts⟩:=ts
  unfold opK at h
  dsimp only at h
  match args,h with
  | [x,y],h=>
  match ts,h with
  | t::us,h=>
  replace h:=tyK_inv h
  obtain⟨e,hk,hh⟩:=evK_inv hR h
  replace h:=valK_inv hh hk
  obtain⟨e,hk,hh⟩:=evK_inv hR h
  replace h:=valK_inv hh hk
  cases hs:(Γ t).ty<;>rw[hs] at h<;>try exact h.elim
  rename_i et
  have ht:P.underlying t=some (.slice et):=ty_of hΓ hs rfl
  replace h:=tyK_inv h
  obtain⟨ho,h⟩:=other_elim h
  obtain⟨i,hi,his,hib,z,hz,hzc⟩:=(tiok hΓ ho).2.info
  unfold copyK at h
  obtain⟨base,sLen,sCap,src,n,c,cells,hsv,hxv,hcl,hone,hsn,hsr,hb0,hb1⟩:=h
  have e1:(⟨[x,y]⟩:Array Operand).map a.eval=#[a.eval x,a.eval y]:=by simp
  have main:∀ v w' O',(Builtin.copy_ ⟨t::us⟩ ty #[a.eval x,a.eval y]).run P w=.ok v w'→K ⟨env,loc,H,O'⟩ (.v v)→Real φ ⟨env,loc,H,O'⟩ a w'→Stp .free ⟨env,loc,H,O⟩ w ⟨env,loc,H,O'⟩ w'→(Oper.mk dst (.call { callee:=.builtin .copy,args:=⟨[x,y]⟩,argTypes:=⟨t::us⟩ }) ty ps af gd).wpIn (wide r) 0 P a w next Q:=by
    intro v w' O' hrun hk hR' hst
    refine wpIn_value (fun c hc=>by cases hc) (v:=v) (w':=w') ?_ (hn _ _ _ _ hk hst hR' rfl)
    simp only[execOp,resolve,Sem.run_bind,Sem.run_pure,Result.andThen,invoke,e1,builtin,hrun]
  have hmin:Nat.min n sLen=min n sLen:=rfl
  have hf:(Builtin.firstCells (Γ et).size (min n sLen) (.slice src n c)).run P w=.ok cells.toArray w:=by
    rcases Nat.eq_zero_or_pos (min n sLen) with h0 | h0
    · have hc0:cells=[]:=by rw[h0] at hcl;simpa using hcl
      subst hc0
      rw[h0]
      cases src with
      | none=>
        rw[hsn rfl]
        exact run_firstCells_none w (Γ et).size 0 0 c
      | some ad=>exact run_firstCells_some w (Γ et).size 0 ad n c [] (by simp) (fun j v hj=>by simp at hj)
    · exact rd_first (P:=P) hR.inH hR.inO (sz:=(Γ et).size) (m:=min n sLen) (q:=src) hcl (fun h=>by rw[hsn h];simp) (fun ad had=>hsr ad had h0) n c
  cases hb:base with
  | none=>
    obtain⟨h1,h2⟩:=hb0 hb
    refine main _ _ O ?_ h2 hR stp_same
    rw[hsv,hxv,hb]
    simp[Builtin.copy_,run_underlying ht,Result.andThen,run_size hi,Builtin.lenOf,his,hmin,hf,goInt]
  | some ad=>
    obtain⟨b,off,cs,bt,rfl,hO,hlen,hk⟩:=hb1 ad hb
    have hst:=run_storeCells_at (P:=P) b off bt cells 0 ⟨cs⟩ w (hR.inO b _ hO) (by simp;rw[hcl];omega) hone
    refine main _ _ _ ?_ hk (hR.set_own hO) (stp_own hO hR fun k hk=>setRow_heap_ne w b _ hk)
    rw[hsv,hxv,hb]
    simp only[Nat.add_zero,hcl] at hst
    simp[Builtin.copy_,run_underlying ht,Result.andThen,run_size hi,Builtin.lenOf,his,hmin,hf,goInt]
    rw[hst]
    simp
theorem op_clear {args : Array Operand} {ts:Array TypeId} (hΓ:∀ t,TIOK P t (Γ t)) (hR:Real φ s a w) (h:opK Γ P pol (.call { callee:=.builtin .clear,args,argTypes:=ts }) s K) (hn:Next φ s a w .free dst K next):(Oper.mk dst (.call { callee:=.builtin .clear,args,argTypes:=ts }) ty ps af gd).wpIn (wide r) 0 P a w next Q:=by
  obtain⟨env,loc,H,O⟩:=s
  obtain⟨args⟩:=args
  obtain⟨ts⟩:=ts
  unfold opK at h
  dsimp only at h
  match args,h with
  | [x],h=>
  match ts,h with
  | t::us,h=>
  replace h:=tyK_inv h
  obtain⟨e,hk,hh⟩:=evK_inv hR h
  replace h:=valK_inv hh hk
  cases hs:(Γ t).ty<;>rw[hs] at h<;>try exact h.elim
  rename_i et
  have ht:P.underlying t=some (.slice et):=ty_of hΓ hs rfl
  replace h:=tyK_inv h
  obtain⟨ho,h⟩:=other_elim h
  obtain⟨i,hi,his,hib,z,hz,hzc⟩:=(tiok hΓ ho).2.info
  unfold clearK at h
  obtain⟨base,sLen,sCap,hsv,hzl,hone,h0,h1⟩:=h
  have e1:(⟨[x]⟩:Array Operand).map a.eval=#[a.eval x]:=by simp
  have main:∀ w' O',(Builtin.clear_ ⟨t::us⟩ ty #[a.eval x]).run P w=.ok (.tuple #[]) w'→K ⟨env,loc,H,O'⟩ (.v (.tuple #[]))→Real φ ⟨env,loc,H,O'⟩ a w'→Stp .free ⟨env,loc,H,O⟩ w ⟨env,loc,H,O'⟩ w'→(Oper.mk dst (.call { callee:=.builtin .clear,args:=⟨[x]⟩,argTypes:=⟨t::us⟩ }) ty ps af gd).wpIn (wide r) 0 P a w next Q:=by
    intro w' O' hrun hk hR' hst
    refine wpIn_value (fun c hc=>by cases hc) (v:=.tuple #[]) (w':=w') ?_ (hn _ _ _ _ hk hst hR' rfl)
    simp only[execOp,resolve,Sem.run_bind,Sem.run_pure,Result.andThen,invoke,e1,builtin,hrun]
  cases hb:base with
  | none=>
    refine main _ O ?_ (h0 (.inl hb)) hR stp_same
    rw[hsv,hb]
    simp[Builtin.clear_,run_underlying ht,Result.andThen]
  | some ad=>
    cases sLen with
    | zero=>
      refine main _ O ?_ (h0 (.inr rfl)) hR stp_same
      rw[hsv,hb]
      simp[Builtin.clear_,run_underlying ht,Result.andThen]
    | succ m=>
      obtain⟨b,off,cs,bt,rfl,hO,hlen,hk⟩:=h1 ad hb (by omega)
      have hfl:(List.replicate (m+1) (Γ et).zero).flatten.length=(m+1)*(Γ et).size:=by rw[List.length_flatten];simp[hzl]
      have hst:=run_storeCells_at (P:=P) b off bt (List.replicate (m+1) (Γ et).zero).flatten 0 ⟨cs⟩ w (hR.inO b _ hO) (by simp only[Nat.add_zero,hfl];exact hlen) (fun v hv=>by
        obtain⟨l,hl,hv⟩:=List.mem_flatten.1 hv
        rw[List.eq_of_mem_replicate hl] at hv
        exact hone v hv)
      refine main _ _ ?_ hk (hR.set_own hO) (stp_own hO hR fun k hk=>setRow_heap_ne w b _ hk)
      rw[hsv,hb]
      simp only[Nat.add_zero,hfl] at hst
      simp only[Builtin.clear_,List.getElem?_toArray,List.getElem?_cons_zero,Sem.run_bind,run_underlying ht,Result.andThen,run_zero hi hz,zeroCells_eq z _ hzc]
      simp only[hst]
      rfl
theorem run_getMap {b : Nat} {es:Array MapEntry} {c:Nat} (h:w.heap[b]?=some (.map es c)):(getObj b).run P w=.ok (.map es c) w:=by simp[getObj,Sem.run,h]
theorem run_setMap {b : Nat} {es:Array MapEntry} {c:Nat} {o':Obj} (h:w.heap[b]?=some (.map es c)):(setObj b o').run P w=.ok () (w.putObj b o'):=by simp[setObj,Sem.run,h,World.putObj]
theorem run_checkKey_int (d : Nat) {t:TypeId} {k j:IntKind} {n:Int} {e:Bool} (ht:P.underlying t=some (.int k)):(Instr.checkKey e (d+1) t (.int j n)).run P w=.ok () w:=by
  simp[Instr.checkKey,run_underlying ht]
theorem run_findKey {t : TypeId} {k:IntKind} {x:Value} {es:List MapEntry} {r:Option (Nat × Value)} (ht:P.underlying t=some (.int k)) (h:Instr.findNow (.int k) x es 0=some r):(Instr.findKey t x es).run P w=.ok r w:=by
  simp[Instr.findKey,run_underlying ht,Result.andThen,h]
theorem op_lookup {t : TypeId} {x y:Operand} {ok:Bool} (hΓ:∀ t,TIOK P t (Γ t)) (hR:Real φ s a w) (h:opK Γ P pol (.lookup t x y ok) s K) (hn:Next φ s a w .grow dst K next):(Oper.mk dst (.lookup t x y ok) ty ps af gd).wpIn (wide r) 0 P a w next Q:=by
  obtain⟨env,loc,H,O⟩:=s
  unfold opK at h
  dsimp only at h
  obtain⟨e,hk,hh⟩:=evK_inv hR h
  replace h:=valK_inv hh hk
  obtain⟨e,hk,hh⟩:=evK_inv hR h
  replace h:=tyK_inv (valK_inv hh hk)
  cases hs:(Γ t).ty<;>rw[hs] at h<;>try exact h.elim
  rename_i kt et
  have ht:P.underlying t=some (.map kt et):=ty_of hΓ hs rfl
  replace h:=tyK_inv h
  cases hs':(Γ kt).ty<;>rw[hs'] at h<;>try exact h.elim
  rename_i k
  have hkt:P.underlying kt=some (.int k):=ty_of hΓ hs' rfl
  replace h:=tyK_inv h
  obtain⟨ho,h⟩:=other_elim h
  obtain⟨i,hi,his,_,z,hz,hzc⟩:=(tiok hΓ ho).2.info
  unfold lookK at h
  obtain⟨j,n,hy,h⟩:=h
  have hck:∀ e,(Instr.checkKey e 10000 kt (a.eval y)).run P w=.ok () w:=fun e=>by rw[hy];exact run_checkKey_int 9999 hkt
  have hgr:Grow ⟨env,loc,H,O⟩ w ⟨env,loc,H,O⟩ w:=⟨⟨[],by simp,by simp⟩,Sub.refl _,Nat.le_refl _,fun n _ h=>⟨rfl,rfl,h⟩⟩
  have main:∀ v,(Instr.lookup t (a.eval x) (a.eval y) ok).run P w=.ok v w→K ⟨env,loc,H,O⟩ (.v v)→(Oper.mk dst (.lookup t x y ok) ty ps af gd).wpIn (wide r) 0 P a w next Q:=by
    intro v hrun hk
    refine wpIn_value (fun c hc=>by cases hc) ?_ (hn _ _ _ _ hk hgr hR rfl)
    simp only[execOp,Sem.run_bind,hrun,Result.andThen,Sem.run_pure]
  rcases h with⟨hx,h⟩ | ⟨b,es,clk,q,hx,hb,hf,h⟩
  · have hrun:(Instr.lookup t (a.eval x) (a.eval y) ok).run P w=.ok (if ok then .tuple #[z,.bool false] else z) w:=by
      rw[hx]
      have hfk:(Instr.findKey kt (a.eval y) []).run P w=.ok none w:=run_findKey hkt rfl
      simp[Instr.lookup,run_underlying ht,Result.andThen,hck,hfk,run_zero hi hz]
    refine main _ hrun ?_
    have:=h z
    cases ok<;>exact this
  · have hw:w.heap[b]?=some (.map es clk):=hb.elim (hR.inH _ _) (hR.inO _ _)
    have hfk:(Instr.findKey kt (a.eval y) es.toList).run P w=.ok q w:=run_findKey hkt hf
    have hrun:(Instr.lookup t (a.eval x) (a.eval y) ok).run P w=.ok (if ok then .tuple #[(q.map (·.2)).getD z,.bool (q.map (·.2)).isSome] else (q.map (·.2)).getD z) w:=by
      rw[hx]
      cases q with
      | none=>simp[Instr.lookup,run_underlying ht,Result.andThen,hck,hfk,run_zero hi hz,run_getMap hw]
      | some p=>obtain⟨p1,p2⟩:=p;simp[Instr.lookup,run_underlying ht,Result.andThen,hck,hfk,run_getMap hw]
    refine main _ hrun ?_
    have:=h z
    cases ok<;>exact this
theorem run_stays {j : IntKind} {n:Int}:(Instr.keyThatStays (.int j n) (.int j n)).run P w=.ok (.int j n) w:=by
  have h:Instr.sameBits 10000 (.int j n) (.int j n)=true:=by simp[Instr.sameBits]
  simp[Instr.keyThatStays,h]
theorem enter_run {t kt et : TypeId} {k:IntKind} {m key val:Value} {O:PH} {KK:PH→Prop} (hO:In O w) (ht:P.underlying t=some (.map kt et)) (hkt:P.underlying kt=some (.int k)) (h:enterK O k m key val KK) :
    ∃ b o o',KK (ins O b o')∧O b=some o∧(Instr.mapUpdate t m key val).run P w=.ok () (w.putObj b o'):=by
  unfold enterK at h
  rcases h with⟨j,n,b,es,clk,hkey,hm,hb,hf,hk⟩ | ⟨j,n,b,es,clk,i,e,hkey,hm,hb,hf,hi,hk⟩
  · refine⟨b,_,_,hk,hb,?_⟩
    have hw:=hO b _ hb
    have hck:∀ e,(Instr.checkKey e 10000 kt key).run P w=.ok () w:=fun e=>by rw[hkey];exact run_checkKey_int 9999 hkt
    have hfk:(Instr.findKey kt key es.toList).run P w=.ok none w:=run_findKey hkt hf
    rw[hm]
    simp[Instr.mapUpdate,run_underlying ht,Result.andThen,run_getMap hw,hck,hfk,run_setMap hw]
  · refine⟨b,_,_,hk,hb,?_⟩
    have hw:=hO b _ hb
    have hck:∀ e,(Instr.checkKey e 10000 kt key).run P w=.ok () w:=fun e=>by rw[hkey];exact run_checkKey_int 9999 hkt
    have hfk:(Instr.findKey kt key es.toList).run P w=.ok (some (i,e)) w:=run_findKey hkt hf
    have hst:(Instr.keyThatStays key key).run P w=.ok key w:=by rw[hkey];exact run_stays
    obtain⟨e0,he0,hk0⟩:=Option.map_eq_some_iff.1 hi
    have hst':(Instr.keyThatStays e0.key key).run P w=.ok key w:=by rw[hk0];exact hst
    rw[hm]
    simp[Instr.mapUpdate,run_underlying ht,Result.andThen,run_getMap hw,hck,hfk,he0,hst',run_setMap hw]
theorem grow_put {env : List En} {loc:List (Option B)} {H O:PH} {b:Nat} {o o':Obj} {w w':World} (hb:O b=some o) (hsz:w'.heap.size=w.heap.size) (hne:∀ n,n ≠ b→w'.heap[n]?=w.heap[n]?):Grow ⟨env,loc,H,O⟩ w ⟨env,loc,H,ins O b o'⟩ w':=by
  refine⟨⟨[],by simp,by simp⟩,Sub.refl _,by omega,fun n hn ho=>?_⟩
  have:n ≠ b:=fun e=>by dsimp only at ho;rw[e,hb] at ho;cases ho
  exact⟨hne n this,rfl,(ins_ne _ _ this).trans ho⟩
theorem op_mapUpdate {t : TypeId} {m x y:Operand} (hΓ:∀ t,TIOK P t (Γ t)) (hR:Real φ s a w) (h:opK Γ P pol (.mapUpdate t m x y) s K) (hn:Next φ s a w .grow dst K next):(Oper.mk dst (.mapUpdate t m x y) ty ps af gd).wpIn (wide r) 0 P a w next Q:=by
  obtain⟨env,loc,H,O⟩:=s
  unfold opK at h
  dsimp only at h
  obtain⟨e,hk,hh⟩:=evK_inv hR h
  replace h:=valK_inv hh hk
  obtain⟨e,hk,hh⟩:=evK_inv hR h
  replace h:=valK_inv hh hk
  obtain⟨e,hk,hh⟩:=evK_inv hR h
  replace h:=tyK_inv (valK_inv hh hk)
  cases hs:(Γ t).ty<;>rw[hs] at h<;>try exact h.elim
  rename_i kt et
  have ht:P.underlying t=some (.map kt et):=ty_of hΓ hs rfl
  replace h:=tyK_inv h
  cases hs':(Γ kt).ty<;>rw[hs'] at h<;>try exact h.elim
  rename_i k
  have hkt:P.underlying kt=some (.int k):=ty_of hΓ hs' rfl
  obtain⟨b,o,o',hk,hb,hrun⟩:=enter_run (P:=P) hR.inO ht hkt h
  refine wpIn_skipped (fun c hc=>by cases hc) ?_ (hn undef _ _ _ hk (grow_put hb (by simp[World.putObj]) fun k hk=>World.putObj_heap_other hk) (hR.put_own _ hb) rfl)
  simp only[execOp,Sem.run_bind,hrun,Result.andThen,Sem.run_pure]
theorem op_insert {t : TypeId} {m x y:Operand} (hΓ:∀ t,TIOK P t (Γ t)) (hR:Real φ s a w) (h:opK Γ P pol (.insert t m x y) s K) (hn:Next φ s a w .grow dst K next):(Oper.mk dst (.insert t m x y) ty ps af gd).wpIn (wide r) 0 P a w next Q:=by
  obtain⟨env,loc,H,O⟩:=s
  unfold opK at h
  dsimp only at h
  obtain⟨e,hk,hh⟩:=evK_inv hR h
  replace h:=valK_inv hh hk
  obtain⟨e,hk,hh⟩:=evK_inv hR h
  replace h:=valK_inv hh hk
  obtain⟨e,hk,hh⟩:=evK_inv hR h
  replace h:=tyK_inv (valK_inv hh hk)
  cases hs:(Γ t).ty<;>rw[hs] at h<;>try exact h.elim
  rename_i kt et
  have ht:P.underlying t=some (.map kt et):=ty_of hΓ hs rfl
  replace h:=tyK_inv h
  cases hs':(Γ kt).ty<;>rw[hs'] at h<;>try exact h.elim
  rename_i k
  have hkt:P.underlying kt=some (.int k):=ty_of hΓ hs' rfl
  obtain⟨b,o,o',hk,hb,hrun⟩:=enter_run (P:=P) hR.inO ht hkt h
  refine wpIn_skipped (fun c hc=>by cases hc) ?_ (hn undef _ _ _ hk (grow_put hb (by simp[World.putObj]) fun k hk=>World.putObj_heap_other hk) (hR.put_own _ hb) rfl)
  simp only[execOp,Sem.run_bind,hrun,Result.andThen,Sem.run_pure]
theorem stp_put {env : List En} {loc:List (Option B)} {H O:PH} {b:Nat} {o o':Obj} {w w':World} (hb:O b=some o) (hne:∀ n,n ≠ b→w'.heap[n]?=w.heap[n]?):Stp .free ⟨env,loc,H,O⟩ w ⟨env,loc,H,ins O b o'⟩ w':=
  ⟨Sub.refl _,fun n _ hH hO hl=>by
    have:n ≠ b:=fun e=>by dsimp only at hO;rw[e,hb] at hO;cases hO
    exact⟨hne n this,hH,(ins_ne _ _ this).trans hO,hl⟩⟩
theorem op_range {t : TypeId} {x:Operand} (hΓ:∀ t,TIOK P t (Γ t)) (hR:Real φ s a w) (h:opK Γ P pol (.range t x) s K) (hn:Next φ s a w .free dst K next):(Oper.mk dst (.range t x) ty ps af gd).wpIn (wide r) 0 P a w next Q:=by
  obtain⟨env,loc,H,O⟩:=s
  unfold opK at h
  dsimp only at h
  obtain⟨e,hk,hh⟩:=evK_inv hR h
  replace h:=tyK_inv (valK_inv hh hk)
  cases hs:(Γ t).ty<;>rw[hs] at h<;>try exact h.elim
  rename_i kt et
  have ht:P.underlying t=some (.map kt et):=ty_of hΓ hs rfl
  unfold rangeK at h
  obtain⟨b,es,clk,hx,hb,h⟩:=h
  have hw:w.heap[b]?=some (.map es clk):=hb.elim (hR.inH _ _) (hR.inO _ _)
  have hrun:=run_range_map (P:=P) w t kt et b es clk ht hw
  refine wpIn_value (fun c hc=>by cases hc) (v:=.pointer (some ⟨w.heap.size,0,none⟩)) (w':=w.alloc (.mapIter (some b) clk #[] clk)) ?_ (hn _ _ _ _ (h w.heap.size (hR.inH.none (Nat.le_refl _)) (hR.inO.none (Nat.le_refl _))) (stp_new fun k hk=>alloc_old w _ hk) (hR.alloc_own _) rfl)
  simp only[execOp,hx,Sem.run_bind,hrun,Result.andThen,Sem.run_pure]
theorem op_next {x : Operand} (hR:Real φ s a w) (h:opK Γ P pol (.next x false) s K) (hn:Next φ s a w .free dst K next):(Oper.mk dst (.next x false) ty ps af gd).wpIn (wide r) 0 P a w next Q:=by
  obtain⟨env,loc,H,O⟩:=s
  unfold opK at h
  dsimp only at h
  obtain⟨e,hk,hh⟩:=evK_inv hR h
  replace h:=valK_inv hh hk
  unfold nextK at h
  obtain⟨r',b,since,c0,seen,es,clk,hx,hr,hb,hold,hsc,h0,h1⟩:=h
  have hwr:=hR.inO _ _ hr
  have hw:w.heap[b]?=some (.map es clk):=hb.elim (hR.inH _ _) (hR.inO _ _)
  rcases run_next_at (P:=P) w ty r' b since c0 seen es clk hwr hw hold hsc with⟨hz,hrun⟩ | ⟨e',he,w1,hal,hrun⟩
  · refine wpIn_value (fun c hc=>by cases hc) (v:=.tuple #[.bool false]) (w':=w) ?_ (hn _ _ _ _ (h0 hz) ⟨Sub.refl _,fun n _ hH hO hl=>⟨rfl,hH,hO,hl⟩⟩ hR rfl)
    simp only[execOp,hx,Sem.run_bind,hrun,Result.andThen,Sem.run_pure]
  · have hR1:Real φ ⟨env,loc,H,O⟩ a w1:=by
      rcases hal with rfl | rfl
      · exact hR
      · exact hR.drew
    have hhp:w1.heap=w.heap:=by rcases hal with rfl | rfl<;>rfl
    refine wpIn_value (fun c hc=>by cases hc) (v:=.tuple #[.bool true,e'.key,e'.val]) (w':=w1.putObj r' (.mapIter (some b) since (seen.push e'.born) clk)) ?_ (hn _ _ _ _ (h1 e' he) (stp_put hr fun k hk=>(World.putObj_heap_other hk).trans (by rw[hhp])) (hR1.put_own _ hr) rfl)
    simp only[execOp,hx,Sem.run_bind,hrun,Result.andThen,Sem.run_pure]
    rfl
theorem op_entry {x : Operand} (hR:Real φ s a w) (h:opK Γ P pol (.entry x) s K) (hn:Next φ s a w .free dst K next):(Oper.mk dst (.entry x) ty ps af gd).wpIn (wide r) 0 P a w next Q:=by
  obtain⟨env,loc,H,O⟩:=s
  unfold opK at h
  dsimp only at h
  obtain⟨e,hk,hh⟩:=evK_inv hR h
  replace h:=valK_inv hh hk
  unfold itemK at h
  obtain⟨r',b,since,seen,es,clk,e',hx,hr,hb,he,hnd,h⟩:=h
  have hwr:=hR.inO _ _ hr
  have hw:w.heap[b]?=some (.map es clk):=hb.elim (hR.inH _ _) (hR.inO _ _)
  have hrun:=run_entry_at (P:=P) w r' b since seen es clk e' hwr hw he hnd
  refine wpIn_value (fun c hc=>by cases hc) (v:=.tuple #[e'.key,e'.val]) (w':=w) ?_ (hn _ _ _ _ h ⟨Sub.refl _,fun n _ hH hO hl=>⟨rfl,hH,hO,hl⟩⟩ hR rfl)
  simp only[execOp,hx,Sem.run_bind,hrun,Result.andThen,Sem.run_pure]
end
end Go.Proofs.YtgbhgfdgifkdhaaGreat.X

namespace Go.Proofs.YtgbhgfdgifkdhaaGreat.X
open Go PH
section
variable {Γ : TypeId → TI} {P : Program} {φ : Fr} {s : S} {a : Act} {w : World} {r : Option Nat}
theorem opK_light {o : Oper} {K:S→En→Prop} {pol:Pol} {next:Act→World→Prop} (hkd:Op.kd o.op=.light) (hΓ:∀ t,TIOK P t (Γ t)) (hR:Real φ s a w) (h:opK Γ P pol o.op s K) (hn:Next φ s a w .light o.dst K next) :
    Val P o a w next:=by
  obtain⟨dst,op,ty,ps,af,gd⟩:=o
  dsimp only at h hn hkd
  cases op with
  | move x=>exact op_move hR h hn
  | assign x=>exact op_assign hR h hn
  | pick c x y=>exact op_pick hR h hn
  | build t l=>exact op_build hΓ hR h hn
  | load t x=>exact op_load hΓ hR h hn
  | nilCheck x=>exact op_nilCheck hR h hn
  | binOp op t x y u=>exact op_binOp hΓ hR h hn
  | unOp u t x=>exact op_unOp hR h hn
  | convert t u x=>exact op_convert hΓ hR h hn
  | makeFunc fn f c=>exact op_makeFunc hR h hn
  | slice t x lo hi mx=>exact op_slice hΓ hR h hn
  | fieldAddr t x f=>exact op_fieldAddr hΓ hR h hn
  | field t x f=>exact op_field hΓ hR h hn
  | indexAddr t x y=>exact op_indexAddr hΓ hR h hn
  | index t x y=>exact op_index hΓ hR h hn
  | extract x i=>exact op_extract hR h hn
  | call c=>
    obtain⟨callee,args,ts⟩:=c
    cases callee with
    | value f=>cases hkd
    | builtin b=>exact op_builtin hkd hΓ hR h (by rw[hkd];exact hn)
    | invoke _ _=>cases hkd
  | _=>cases hkd
theorem opK_sound {o : Oper} {K:S→En→Prop} {pol:Pol} {next:Act→World→Prop} {Q:Exit→Act→World→Prop} (hΓ:∀ t,TIOK P t (Γ t)) (hR:Real φ s a w) (h:opK Γ P pol o.op s K) (hn:Next φ s a w (Op.kd o.op) o.dst K next) :
    o.wpIn (wide r) 0 P a w next Q:=by
  obtain⟨dst,op,ty,ps,af,gd⟩:=o
  dsimp only at h hn
  cases op with
  | move x=>exact Val.wpIn (op_move hR h hn) (fun c hc=>by cases hc)
  | assign x=>exact Val.wpIn (op_assign hR h hn) (fun c hc=>by cases hc)
  | pick c x y=>exact Val.wpIn (op_pick hR h hn) (fun c hc=>by cases hc)
  | alloc t=>exact op_alloc hΓ hR h hn
  | box t x=>exact op_box hR h hn
  | build t l=>exact Val.wpIn (op_build hΓ hR h hn) (fun c hc=>by cases hc)
  | buildSlice t n l=>exact op_buildSlice hΓ hR h hn
  | load t x=>exact Val.wpIn (op_load hΓ hR h hn) (fun c hc=>by cases hc)
  | store t x y=>exact op_store hΓ hR h hn
  | nilCheck x=>exact Val.wpIn (op_nilCheck hR h hn) (fun c hc=>by cases hc)
  | binOp op t x y u=>exact Val.wpIn (op_binOp hΓ hR h hn) (fun c hc=>by cases hc)
  | unOp u t x=>exact Val.wpIn (op_unOp hR h hn) (fun c hc=>by cases hc)
  | convert t u x=>exact Val.wpIn (op_convert hΓ hR h hn) (fun c hc=>by cases hc)
  | makeFunc fn f c=>exact Val.wpIn (op_makeFunc hR h hn) (fun c hc=>by cases hc)
  | makeMap t x=>exact op_makeMap hR h hn
  | makeSlice t x y=>exact op_makeSlice hΓ hR h hn
  | slice t x lo hi mx=>exact Val.wpIn (op_slice hΓ hR h hn) (fun c hc=>by cases hc)
  | fieldAddr t x f=>exact Val.wpIn (op_fieldAddr hΓ hR h hn) (fun c hc=>by cases hc)
  | field t x f=>exact Val.wpIn (op_field hΓ hR h hn) (fun c hc=>by cases hc)
  | indexAddr t x y=>exact Val.wpIn (op_indexAddr hΓ hR h hn) (fun c hc=>by cases hc)
  | index t x y=>exact Val.wpIn (op_index hΓ hR h hn) (fun c hc=>by cases hc)
  | extract x i=>exact Val.wpIn (op_extract hR h hn) (fun c hc=>by cases hc)
  | lookup t x i ok=>exact op_lookup hΓ hR h hn
  | mapUpdate t m i x=>exact op_mapUpdate hΓ hR h hn
  | insert t m i x=>exact op_insert hΓ hR h hn
  | range t x=>exact op_range hΓ hR h hn
  | next x b=>
    cases b with
    | false=>exact op_next hR h hn
    | true=>obtain⟨env,loc,H,O⟩:=s;exact h.elim
  | entry x=>exact op_entry hR h hn
  | call c=>
    obtain⟨callee,args,ts⟩:=c
    cases callee with
    | value f=>exact op_call hR h hn
    | builtin b=>
      cases hkd:Op.kd (.call { callee:=.builtin b,args,argTypes:=ts })
      · exact Val.wpIn (op_builtin hkd hΓ hR h hn) (fun c hc=>by cases hc)
      · cases b<;>cases hkd
      · cases b<;>first | (cases hkd;done) | (exact op_append hΓ hR h hn) | (exact op_copy hΓ hR h hn) | (exact op_clear hΓ hR h hn) | (obtain⟨env,loc,H,O⟩:=s;exact h.elim)
      · cases b<;>cases hkd
    | invoke _ _=>obtain⟨env,loc,H,O⟩:=s;exact h.elim
  | _=>obtain⟨env,loc,H,O⟩:=s;exact h.elim
theorem Real.learn (hR : Real φ s a w) {d:Nat} {v:Value} (hd:d < s.env.length) (hv:a.tmps[d]?=some v):Real φ ⟨s.env.set d (.v v),s.loc,s.H,s.O⟩ a w:=by
  refine⟨by simpa using hR.size,?_,hR.loc,hR.apart,hR.inH,hR.inO,hR.dis,hR.sub,hR.old,hR.frm,hR.uniq,hR.marks⟩
  intro t e he
  by_cases ht:d=t
  · subst ht
    rw[List.getElem?_set_self hd] at he
    cases he
    exact hv
  · rw[List.getElem?_set_ne ht] at he
    exact hR.env t e he
theorem guardK_inv {ops : List Oper} {g:Option (Nat × Bool)} {A B:List En→Prop} {o:Oper} (hg:o.guard=g) (hR:Real φ s a w) (h:guardK ops g s.env A B) :
    (Region.wanted o (yielded ⟨ops⟩ a.tmps)=true∧∃ env,A env∧Real φ ⟨env,s.loc,s.H,s.O⟩ a w)∨(Region.wanted o (yielded ⟨ops⟩ a.tmps)=false∧∃ env,B env∧Real φ ⟨env,s.loc,s.H,s.O⟩ a w):=by
  cases g with
  | none=>exact .inl ⟨by simp[Region.wanted,hg],_,h,hR⟩
  | some p=>
    obtain⟨j,want⟩:=p
    obtain⟨oj,hj,h⟩:=getK_iff.1 h
    obtain⟨d,op,ty,ps,af,gd⟩:=oj
    cases d with
    | none=>exact h.elim
    | some d=>
      obtain⟨e,he,h⟩:=getK_iff.1 h
      have hh:=hR.env d e he
      have hlt:d < s.env.length:=(List.getElem?_eq_some_iff.1 he).1
      have key:∀ v,a.tmps[d]?=some v→selK want s.env d v A B→(Region.wanted o (yielded ⟨ops⟩ a.tmps)=true∧∃ env,A env∧Real φ ⟨env,s.loc,s.H,s.O⟩ a w)∨(Region.wanted o (yielded ⟨ops⟩ a.tmps)=false∧∃ env,B env∧Real φ ⟨env,s.loc,s.H,s.O⟩ a w):=by
        intro v hv h
        have hR':=hR.learn hlt hv
        have hjA:(⟨ops⟩:Array Oper)[j]?=some ⟨some d,op,ty,ps,af,gd⟩:=by simpa using hj
        have hy:∀ b,v=.bool b→yielded ⟨ops⟩ a.tmps j=some b:=by
          intro b hb
          unfold yielded
          rw[hjA]
          simp only[Option.bind_some,hv,hb]
        have hyn:∀ xs,v=.tuple xs→yielded ⟨ops⟩ a.tmps j=none:=by
          intro xs hb
          unfold yielded
          rw[hjA]
          simp only[Option.bind_some,hv,hb]
        revert hyn hy h hR'
        clear hv
        cases v<;>intro h hR' hy hyn<;>try exact h.elim
        case tuple xs=>exact .inr ⟨by simp[Region.wanted,hg,hyn xs rfl],_,h,hR⟩
        rename_i b
        replace hy:=hy b rfl
        cases b<;>cases want<;>first
          | exact .inl ⟨by simp[Region.wanted,hg,hy],_,(setK_iff.1 h).2,hR'⟩
          | exact .inr ⟨by simp[Region.wanted,hg,hy],_,(setK_iff.1 h).2,hR'⟩
      cases e with
      | any=>exact h.elim
      | v x=>exact key x hh h
      | l x i=>exact key x hh.1 h
theorem litK_inv {x : Operand} {b:Bool} {K:List En→Prop} (hR:Real φ s a w) (hx:a.eval x=.bool b) (h:litK s.env x b K):∃ env,K env∧Real φ ⟨env,s.loc,s.H,s.O⟩ a w:=by
  cases x with
  | tmp t=>
    obtain⟨hlt,hk⟩:=setK_iff.1 h
    refine⟨_,hk,hR.learn hlt ?_⟩
    have hsz:=hR.size
    have:t < a.tmps.size:=by rw[hsz];exact hlt
    have e:a.eval (.tmp t)=a.tmps[t]:=by simp[Act.eval,Array.getD_eq_getD_getElem?,this]
    rw[e] at hx
    rw[Array.getElem?_eq_getElem this,hx]
  | const v=>exact⟨_,h,hR⟩
  | global g=>exact⟨_,h,hR⟩
  | func f=>exact⟨_,h,hR⟩
abbrev PostOf (φ : Fr) (K:Exit→S→Prop):Exit→Act→World→Prop:=fun e a' w'=>ok e=true∧∃ s',K e s'∧Real φ s' a' w'
theorem opsK_sound (hΓ : ∀ t,TIOK P t (Γ t)) {pol:Tmp→Pol} {ops:List Oper} {K:S→Prop} {Q:Exit→Act→World→Prop} (hQ:∀ s' a' w',K s'→Real φ s' a' w'→Q .normal a' w') :
    ∀ (rest:List Oper) (k:Nat) (s:S) (a:Act) (w:World),(∀ j,rest[j]?=ops[k+j]?)→Real φ s a w→opsK Γ P pol ops rest s K →
      wpOpsIn (wide r) 0 P ⟨ops⟩ Q (List.range' k rest.length) a w
  | [],k,s,a,w,_,hR,h=>hQ _ _ _ h hR
  | o::rest,k,s,a,w,hk,hR,h=>by
    have ho:(⟨ops⟩:Array Oper)[k]?=some o:=by
      have:=hk 0
      simp at this
      simpa using this.symm
    have hrest:∀ j,rest[j]?=ops[k+1+j]?:=fun j=>by
      have:=hk (j+1)
      rw[List.getElem?_cons_succ] at this
      rw[this];congr 1;omega
    obtain⟨env,loc,H,O⟩:=s
    obtain⟨d,op,ty,ps,af,g⟩:=o
    unfold opsK at h
    dsimp only at h
    rw[List.length_cons,List.range'_succ]
    unfold wpOpsIn
    rw[ho]
    dsimp only
    rcases guardK_inv (o:=⟨d,op,ty,ps,af,g⟩) rfl hR h with⟨hw,env1,h,hR⟩ | ⟨hw,env1,h,hR⟩
    · rw[hw]
      simp only[if_true]
      refine opK_sound hΓ hR h ?_
      intro v w' s' e hk he hR' hh
      obtain⟨env',loc',H',O'⟩:=s'
      dsimp only at hk
      obtain⟨env2,hk,hR2⟩:=hR'.put hh hk
      exact opsK_sound hΓ hQ rest (k+1) _ _ _ hrest hR2 hk
    · rw[hw]
      simp only[Bool.false_eq_true,if_false]
      refine⟨fun _ _=>trivial,?_⟩
      obtain⟨env2,hk,hR2⟩:=hR.put (e:=.v undef) (v:=undef) rfl h
      exact opsK_sound hΓ hQ rest (k+1) _ _ _ hrest hR2 hk
theorem wpIn_scope {F : Fence} {n:Nat} {c:Code} {Q:Exit→Act→World→Prop} (h:c.wpIn F n P (fun e a w=>(∀ l,e ≠ .goto l)∧Q e a w) a w):(Code.scope c).wpIn F n P Q a w:=by
  intro b k cs hro hb hr
  have step_scope:step P (lone (b.atR a (.code (.scope c)::k)) cs w)=.next (lone (b.atR a (.code c::.inScope c::k)) cs w):=
    step_lone_go (by simp[stepG,stepG.exec,Frame.atR])
  have step_in:∀ a w,step P (lone (b.atR a (.inScope c::k)) cs w)=.next (lone (b.atR a k) cs w):=fun a w=>
    step_lone_go (by simp[stepG,stepG.exec,Frame.atR])
  have h0:(lone (b.atR a (.code (.scope c)::k)) cs w).fenced P F:=fenced_calm hb hr rfl
  obtain⟨e,a₁,w₁,⟨hg,hq⟩,harr⟩:=h b (.inScope c::k) cs hro hb hr
  cases e with
  | normal=>exact⟨.normal,a₁,w₁,hq,.head h0 step_scope (StepsIn.trans harr (.one (fenced_calm hb hr rfl) (step_in _ _)))⟩
  | exit id=>
    have hx:exitTo id (.inScope c::k)=exitTo id k:=by simp[exitTo]
    exact⟨_,a₁,w₁,hq,fun k' hk=>.head h0 step_scope (harr.1 k' (by rw[hx];exact hk)),
      fun hr' hk=>let ⟨k₁,h1,h2⟩:=harr.2 hr' (by rw[hx];exact hk);⟨k₁,h1,.head h0 step_scope h2⟩⟩
  | goto l=>exact absurd rfl (hg l)
  | ret=>exact⟨_,a₁,w₁,hq,.of_steps (.one h0 step_scope) harr⟩
  | panic ch=>exact⟨_,a₁,w₁,hq,.of_steps (.one h0 step_scope) harr⟩
  | outgrown=>exact⟨_,a₁,w₁,hq,.of_steps (.one h0 step_scope) harr⟩
theorem codeK_sound (hΓ : ∀ t,TIOK P t (Γ t)) {pol:Tmp→Pol}:∀ (c:Code) (s:S) (K:Exit→S→Prop),codeK Γ P r pol c s K →
    ∀ (φ:Fr) (a:Act) (w:World),φ.r=r→Real φ s a w→c.wpIn (wide r) 0 P (PostOf φ K) a w:=by
  intro c
  induction c with
  | skip=>exact fun s K h φ a w _ hR=>wpIn_skip ⟨rfl,s,h,hR⟩
  | label l=>exact fun s K h φ a w _ hR=>wpIn_label ⟨rfl,s,h,hR⟩
  | exit id=>exact fun s K h φ a w _ hR=>wpIn_exit ⟨rfl,s,h,hR⟩
  | ret=>exact fun s K h φ a w _ hR=>wpIn_ret ⟨rfl,s,h,hR⟩
  | goto l=>exact fun s K h=>h.elim
  | refuse _=>exact fun s K h=>h.elim
  | region id ops draw=>
    intro s K h φ a w hr hR
    obtain⟨ops⟩:=ops
    cases draw with
    | true=>unfold codeK W at h;exact h φ a w hr hR
    | false=>
      refine wpIn_region ?_
      have:=opsK_sound (r:=r) (Q:=PostOf φ K) hΓ (fun s' a' w' hk hR'=>⟨rfl,s',hk,hR'⟩) ops 0 s a w (fun j=>by simp) hR h
      rw[← List.range_eq_range'] at this
      exact this
  | seq x y ihx ihy=>
    intro s K h φ a w hr hR
    refine wpIn_seq (wpIn_mono (ihx s _ h φ a w hr hR) ?_)
    rintro e a' w' ⟨hok,s',hk,hR'⟩
    cases e with
    | normal=>exact ihy s' K hk φ a' w' hr hR'
    | panic _=>cases hok
    | outgrown=>cases hok
    | _=>exact⟨rfl,s',hk,hR'⟩
  | cond x t e iht ihe=>
    intro s K h φ a w hr hR
    obtain⟨env,loc,H,O⟩:=s
    unfold codeK at h
    dsimp only at h
    obtain⟨e',hk,hh⟩:=evK_inv hR h
    replace hk:=valK_inv hh hk
    revert hk
    cases hx:a.eval x<;>intro hk<;>try exact hk.elim
    rename_i b
    cases b with
    | true=>
      obtain⟨env1,hk,hR⟩:=litK_inv hR hx hk
      exact wpIn_cond_true hx (iht _ K hk φ a w hr hR)
    | false=>
      obtain⟨env1,hk,hR⟩:=litK_inv hR hx hk
      exact wpIn_cond_false hx (ihe _ K hk φ a w hr hR)
  | block id c ih=>
    intro s K h φ a w hr hR
    refine wpIn_block (wpIn_mono (ih s _ h φ a w hr hR) ?_)
    rintro e a' w' ⟨hok,s',hk,hR'⟩
    cases e with
    | normal=>exact⟨rfl,s',hk,hR'⟩
    | exit i=>
      dsimp only at hk
      unfold Exit.inBlock
      dsimp only
      split
      · rename_i e;rw[if_pos e] at hk;exact⟨rfl,s',hk,hR'⟩
      · rename_i e;rw[if_neg e] at hk;exact⟨rfl,s',hk,hR'⟩
    | goto _=>exact⟨rfl,s',hk,hR'⟩
    | ret=>exact⟨rfl,s',hk,hR'⟩
    | panic _=>cases hok
    | outgrown=>cases hok
  | scope c ih=>
    intro s K h φ a w hr hR
    refine wpIn_scope (wpIn_mono (ih s _ h φ a w hr hR) ?_)
    rintro e a' w' ⟨hok,s',hk,hR'⟩
    cases e with
    | goto _=>exact hk.elim
    | panic _=>cases hok
    | outgrown=>cases hok
    | _=>exact⟨(fun l e=>by cases e),rfl,s',hk,hR'⟩
  | loop c _=>intro s K h φ a w hr hR;unfold codeK W at h;exact h φ a w hr hR
  | rangeFunc g ps x y _ _=>intro s K h φ a w hr hR;unfold codeK W at h;exact h φ a w hr hR
end
end Go.Proofs.YtgbhgfdgifkdhaaGreat.X

namespace Go.Proofs.YtgbhgfdgifkdhaaGreat.X
open Go PH
def anyK : Nat→(List En→Prop)→Prop
  | 0,K=>K []
  | n+1,K=>anyK n fun l=>K (.any::l)
def startK : List Value→Nat→(List En→Prop)→Prop
  | [],n,K=>anyK n K
  | _::_,0,_=>False
  | x::l,n+1,K=>startK l n fun env=>K (.v x::env)
section
variable (Γ : TypeId → TI)
def resK (env : List En) (loc:List (Option B)) (H O:PH) (x:ResultVar) (K:Value→Prop):Prop:=
  match x with
  | .tmp t=>getK env t fun e=>e.valK K
  | .cell p t=>getK env p fun e=>match e with
    | .any=>False
    | .l x i=>match x with
      | .pointer (some ⟨_,off,_⟩)=>getK loc i fun b=>match b with
        | none=>False
        | some ⟨_,cs,_,_⟩=>tyK Γ t fun ty sz _ _ _=>dropK cs off fun cs=>takeK cs sz fun cs=>mkK ty cs K
      | _=>False
    | .v x=>match x with
      | .pointer (some a)=>tyK Γ t fun ty sz _ _ _=>∃ cs,Rd H O a sz cs∧mkK ty cs K
      | _=>False
def rescK (env : List En) (loc:List (Option B)) (H O:PH):List ResultVar→(List Value→Prop)→Prop
  | [],K=>K []
  | x::l,K=>resK Γ env loc H O x fun v=>rescK env loc H O l fun vs=>K (v::vs)
def retK (rs : List ResultVar) (s:S) (K:Value→PH→PH→Prop):Prop:=
  match s with
  | ⟨env,loc,H,O⟩=>rescK Γ env loc H O rs fun vs=>match vs with
    | [v]=>K v H O
    | vs=>K (.tuple ⟨vs⟩) H O
end
section
variable {Γ : TypeId → TI} {P : Program} {φ : Fr} {s : S} {a : Act} {w : World} {r : Option Nat}
theorem anyK_inv : ∀ {n:Nat} {K:List En→Prop},anyK n K→K (List.replicate n .any)
  | 0,_,h=>h
  | n+1,K,h=>anyK_inv (n:=n) (K:=fun l=>K (.any::l)) h
theorem startK_inv : ∀ {l:List Value} {n:Nat} {K:List En→Prop},startK l n K→l.length≤n∧K (l.map .v++List.replicate (n - l.length) .any)
  | [],n,K,h=>⟨by simp,by simpa using anyK_inv h⟩
  | _::_,0,_,h=>h.elim
  | x::l,n+1,K,h=>by
    obtain⟨h1,h2⟩:=startK_inv (l:=l) (n:=n) (K:=fun env=>K (.v x::env)) h
    refine⟨by simpa using h1,?_⟩
    simpa using h2
theorem resK_inv (hΓ : ∀ t,TIOK P t (Γ t)) (hR:Real φ s a w) {x:ResultVar} {K:Value→Prop} (h:resK Γ s.env s.loc s.H s.O x K) :
    ∃ v,K v∧∀ w',(∀ n o,s.H n=some o→w'.heap[n]?=some o)→(∀ n o,s.O n=some o→w'.heap[n]?=some o)→(∀ (i:Nat) (b:B),s.loc[i]?=some (some b)→w'.heap[b.n]?=some b.obj) →
      ((match x with
        | .tmp t=>pure (a.tmps.getD t undef)
        | .cell p t=>do loadVar t (← asAddr (a.tmps.getD p undef))):Sem Value).run P w'=.ok v w':=by
  cases x with
  | tmp t=>
    obtain⟨e,he,hk⟩:=getK_iff.1 h
    have hh:=hR.env t e he
    have key:∀ v,a.tmps[t]?=some v→a.tmps.getD t undef=v:=fun v hv=>by simp[Array.getD_eq_getD_getElem?,hv]
    cases e with
    | any=>exact hk.elim
    | v x=>exact⟨x,hk,fun w' _ _ _=>by dsimp only;rw[key x hh];rfl⟩
    | l x i=>exact⟨x,hk,fun w' _ _ _=>by dsimp only;rw[key x hh.1];rfl⟩
  | cell p t=>
    obtain⟨e,he,hk⟩:=getK_iff.1 h
    have hh:=hR.env p e he
    have key:∀ v,a.tmps[p]?=some v→a.tmps.getD p undef=v:=fun v hv=>by simp[Array.getD_eq_getD_getElem?,hv]
    have main:∀ (b off:Nat) (cs:List Value) (A:World→Prop),a.tmps[p]?=some (.pointer (some ⟨b,off,none⟩))→cs.length=(Γ t).size→(∀ w',A w'→∀ j u,cs[j]?=some u→w'.cell? ⟨b,off+j,none⟩=some u) →
        mkK (Γ t).ty cs K→∃ v,K v∧∀ w',A w'→((do loadVar t (← asAddr (a.tmps.getD p undef))):Sem Value).run P w'=.ok v w':=by
      intro b off cs A hx hl hc hm
      have ho:(Γ t).ty.isOther=false:=by
        cases e:(Γ t).ty<;>first | rfl | (rw[e] at hm;exact hm.elim)
      obtain⟨hty,hinfo⟩:=tiok hΓ ho
      obtain⟨i,hi,hs,_⟩:=hinfo.info
      obtain⟨v,hk,hv⟩:=mkK_inv hty hm
      refine⟨v,hk,fun w' hA=>?_⟩
      have:=run_loadVar (P:=P) (w:=w') (t:=t) hi (by rw[hs];exact hl) hv (hc w' hA)
      simp[key _ hx,asAddr,this]
    cases e with
    | any=>exact hk.elim
    | v y=>
      cases y<;>try exact hk.elim
      rename_i q
      cases q with
      | none=>exact hk.elim
      | some ad=>
        obtain⟨cs,hrd,hm⟩:=tyK_inv hk
        obtain⟨h1,h2,_⟩:=hrd.cells hR.inH hR.inO
        obtain⟨v,hv,hw⟩:=main ad.block ad.off cs (fun w'=>In s.H w'∧In s.O w') (by rw[← h1];exact hh) h2 (fun w' hA=>(hrd.cells hA.1 hA.2).2.2) hm
        exact⟨v,hv,fun w' h3 h4 _=>hw w' ⟨h3,h4⟩⟩
    | l y i=>
      cases y<;>try exact hk.elim
      rename_i q
      cases q with
      | none=>exact hk.elim
      | some ad=>
        obtain⟨ab,aoff,asp⟩:=ad
        obtain⟨b,hb,hk⟩:=getK_iff.1 hk
        cases b with
        | none=>exact hk.elim
        | some b=>
          obtain⟨n,cells,bt,pub⟩:=b
          obtain⟨h1,hk1⟩:=dropK_iff.1 (tyK_inv hk)
          obtain⟨h2,hk2⟩:=takeK_iff.1 hk1
          obtain⟨hx,hat⟩:=hh
          obtain⟨b',hb',hp⟩:=hat.resolve_left (by rw[hb];simp)
          rw[hb] at hb'
          cases hb'
          rcases hp with⟨off,hp⟩ | ⟨_,_,_,hp⟩
          · cases hp
            obtain⟨v,hv,hw⟩:=main n aoff _ (fun w'=>w'.heap[n]?=some (.cells ⟨cells⟩ bt (0,0))) hx (by rw[List.length_take,List.length_drop] at *;omega) (fun w' hA j u hj=>by
              have hlt:j < (Γ t).size:=by
                have:=(List.getElem?_eq_some_iff.1 hj).1
                rw[List.length_take] at this;omega
              rw[List.getElem?_take_of_lt hlt,List.getElem?_drop] at hj
              simp[World.cell?,hA,hj]) hk2
            exact⟨v,hv,fun w' _ _ h5=>hw w' (h5 i _ hb)⟩
          · cases hp
theorem rescK_inv (hΓ : ∀ t,TIOK P t (Γ t)) (hR:Real φ s a w):∀ {l:List ResultVar} {K:List Value→Prop},rescK Γ s.env s.loc s.H s.O l K →
    ∃ vs,K vs∧vs.length=l.length∧∀ w',(∀ n o,s.H n=some o→w'.heap[n]?=some o)→(∀ n o,s.O n=some o→w'.heap[n]?=some o)→(∀ (i:Nat) (b:B),s.loc[i]?=some (some b)→w'.heap[b.n]?=some b.obj) →
      (l.mapM (fun
        | .tmp t=>pure (a.tmps.getD t undef)
        | .cell p t=>do loadVar t (← asAddr (a.tmps.getD p undef))):Sem (List Value)).run P w'=.ok vs w'
  | [],K,h=>⟨[],h,rfl,fun w' _ _ _=>rfl⟩
  | x::l,K,h=>by
    obtain⟨v,hk,hv⟩:=resK_inv hΓ hR h
    obtain⟨vs,hk,hl,hvs⟩:=rescK_inv hΓ hR hk
    refine⟨v::vs,hk,by simp[hl],fun w' h1 h2 h3=>?_⟩
    rw[List.mapM_cons]
    simp only[Sem.run_bind]
    rw[hv w' h1 h2 h3]
    simp only[Result.andThen]
    rw[hvs w' h1 h2 h3]
    rfl
theorem retK_inv (hΓ : ∀ t,TIOK P t (Γ t)) (hR:Real φ s a w) {fn:Func} {K:Value→PH→PH→Prop} (h:retK Γ fn.results.toList s K) :
    ∃ v,K v s.H s.O∧∀ w',(∀ n o,s.H n=some o→w'.heap[n]?=some o)→(∀ n o,s.O n=some o→w'.heap[n]?=some o)→(∀ (i:Nat) (b:B),s.loc[i]?=some (some b)→w'.heap[b.n]?=some b.obj) →
      (results fn a.tmps).run P w'=.ok v w':=by
  obtain⟨vs,hk,hl,hvs⟩:=rescK_inv hΓ hR h
  have hrun:∀ w',(∀ n o,s.H n=some o→w'.heap[n]?=some o)→(∀ n o,s.O n=some o→w'.heap[n]?=some o)→(∀ (i:Nat) (b:B),s.loc[i]?=some (some b)→w'.heap[b.n]?=some b.obj) →
      (results fn a.tmps).run P w'=.ok (if h:(⟨vs⟩:Array Value).size=1 then (⟨vs⟩:Array Value)[0] else .tuple ⟨vs⟩) w':=by
    intro w' h1 h2 h3
    unfold results
    rw[Sem.run_bind,Array.mapM_eq_mapM_toList,Sem.run_map]
    exact (congrArg (fun r:Result (List Value)=>(r.andThen fun a w'=>Result.ok a.toArray w').andThen fun a w'=>(pure (if h:a.size=1 then a[0] else Value.tuple a):Sem Value).run P w') (hvs w' h1 h2 h3)).trans rfl
  match vs,hk,hrun with
  | [],hk,hrun=>exact⟨_,hk,fun w' h1 h2 h3=>hrun w' h1 h2 h3⟩
  | [v],hk,hrun=>exact⟨v,hk,fun w' h1 h2 h3=>hrun w' h1 h2 h3⟩
  | v::u::vs,hk,hrun=>exact⟨_,hk,fun w' h1 h2 h3=>hrun w' h1 h2 h3⟩
theorem leaves (hΓ : ∀ t,TIOK P t (Γ t)) {fn:Func} {R:Ending→World→Prop} {v:Value} (hv:∀ w',(∀ n o,s.H n=some o→w'.heap[n]?=some o)→(∀ n o,s.O n=some o→w'.heap[n]?=some o)→(∀ (i:Nat) (b:B),s.loc[i]?=some (some b)→w'.heap[b.n]?=some b.obj) →
      (results fn a.tmps).run P w'=.ok v w') (hR:∀ w',Real φ s { a with defers:=[] } w'→R (.returned v) w'):∀ (ds:List Deferred) (w:World),Real φ s { a with defers:=ds } w→LeavesInM (wide none) 0 P fn a.tmps R ds .returning w
  | [],w,h=>⟨v,hv w h.inH h.inO (fun i b hb=>(h.loc i b hb).1),hR w h⟩
  | d::ds,w,h=>by
    obtain⟨q,rfl,q2,q3,q4,q5,q6⟩:=h.marks d (by simp)
    refine⟨by simp,.inl ⟨q,w.putObj q (.deferred none),rfl,run_takeDeferred q2,leaves hΓ hv hR ds _ ?_⟩⟩
    have hne:∀ {n:Nat},n ≠ q→(w.putObj q (.deferred none)).heap[n]?=w.heap[n]?:=fun h=>World.putObj_heap_other h
    refine⟨h.size,h.env,?_,h.apart,?_,?_,h.dis,h.sub,h.old,?_,?_,?_⟩
    · intro i b hb
      obtain⟨k1,k2,k3,k4⟩:=h.loc i b hb
      exact⟨(hne (q6 i b hb)).trans k1,k2,k3,k4⟩
    · intro n o hn
      exact (hne (fun e=>by subst e;rw[q4] at hn;cases hn)).trans (h.inH n o hn)
    · intro n o hn
      exact (hne (fun e=>by subst e;rw[q5] at hn;cases hn)).trans (h.inO n o hn)
    · exact⟨h.frm.os,h.frm.tape,h.frm.output,by simp;exact h.frm.size,fun n hn hm=>(hne (by omega)).trans (h.frm.block n hn hm)⟩
    · exact (List.pairwise_cons.1 h.uniq).2
    · intro d hd
      obtain⟨p,p1,p2,p3,p4,p5,p6⟩:=h.marks d (by simp[hd])
      have:p ≠ q:=fun e=>by subst e;exact (List.pairwise_cons.1 h.uniq).1 d hd p rfl p1
      exact⟨p,p1,(hne this).trans p2,p3,p4,p5,p6⟩
theorem Cl_of {f : FuncId} {fn : Func} {c : Code} {pol : Tmp → Pol} {args : List Value} {H M : PH} {Q : Value → PH → PH → Prop} (hΓ : ∀ t, TIOK P t (Γ t)) (hf : P.funcs[f]? = some fn) (hname : (fn.name == "runtime.NumGoroutine") = false) (hb : fn.body = some c)
    (h:startK args fn.ntmps fun env=>codeK Γ P none pol c ⟨env,[],H,M⟩ fun e s=>match e with
      | .normal=>retK Γ fn.results.toList s Q
      | .ret=>retK Γ fn.results.toList s Q
      | _=>False):Cl P f args H M Q:=by
  obtain⟨hl,h⟩:=startK_inv h
  unfold Cl
  refine⟨fun args w=>by simp[callFunc,hf,(beq_eq_false_iff_ne.1 hname),hb],fun w hH hM hd=>(callsIn_wide (n:=0)).1 (callsIn_of_wp_marks hf hb trivial ?_)⟩
  have hR:Real ⟨w,H,M,none⟩ ⟨args.map .v++List.replicate (fn.ntmps - args.length) .any,[],H,M⟩ { tmps:=args.toArray++Array.replicate (fn.ntmps - args.toArray.size) undef,defers:=[] } w:=by
    refine⟨by simp,?_,(by simp),(by simp),hH,hM,hd,Sub.refl H,fun n _ hn=>⟨rfl,hn⟩,Frm.refl _ _,List.Pairwise.nil,(by simp)⟩
    intro t e he
    rcases Nat.lt_or_ge t args.length with hlt | hge
    · rw[List.getElem?_append_left (by simpa using hlt),List.getElem?_map] at he
      obtain⟨x,hx⟩:∃ x,args[t]?=some x:=⟨_,List.getElem?_eq_getElem hlt⟩
      rw[hx] at he
      cases he
      show _=some x
      rw[Array.getElem?_append_left (by simpa using hlt)]
      simpa using hx
    · rw[List.getElem?_append_right (by simpa using hge)] at he
      obtain⟨_,he⟩:=List.getElem?_eq_some_iff.1 he
      simp at he
      subst he
      trivial
  refine wpIn_mono (codeK_sound hΓ c _ _ h _ _ _ rfl hR) ?_
  rintro e a' w' ⟨hok,s',hk,hR'⟩
  have fin:retK Γ fn.results.toList s' Q→LeavesInM (wide none) 0 P fn a'.tmps (fun e w'=>∃ v H' M',e=.returned v∧Post w H M w' H' M'∧Q v H' M') a'.defers .returning w':=by
    intro hk
    obtain⟨v,hq,hv⟩:=retK_inv hΓ hR' hk
    refine leaves hΓ hv ?_ a'.defers w' hR'
    intro w'' hR''
    exact⟨v,s'.H,s'.O,rfl,⟨hR''.sub,hR''.inH,hR''.inO,hR''.dis,hR''.old,hR''.frm⟩,hq⟩
  cases e with
  | normal=>exact fin hk
  | ret=>exact fin hk
  | exit _=>exact hk.elim
  | goto _=>exact hk.elim
  | panic _=>cases hok
  | outgrown=>cases hok
end
end Go.Proofs.YtgbhgfdgifkdhaaGreat.X

namespace Go.Proofs.YtgbhgfdgifkdhaaGreat.X
open Go PH
def ckTy (P : Program) (t:TypeId) (ty:Ty):Bool:=
  match P.underlying t with
  | none=>false
  | some d=>match d,ty with
    | .int k,.int j=>k == j
    | .bool,.bool=>true
    | .string,.str=>true
    | .slice e,.slice f=>e == f
    | .array n e,.array m f=>n == m && e == f
    | .struct fields,.struct fs=>(fields.toList.map fun f=>(f.offset,f.type)) == fs && fields.toList.all fun f=>(P.info? f.type).isSome
    | .pointer e,.ptr f=>e == f
    | .map k e,.map j f=>k == j && e == f
    | .func _ _ _,.func=>true
    | _,_=>false
def ckVal : Value→Value→Bool
  | .int k n,.int j m=>k == j && n == m
  | .bool a,.bool b=>a == b
  | .string a,.string b=>a.data.toList == b.data.toList
  | .pointer none,.pointer none=>true
  | .slice none a b,.slice none c d=>a == c && b == d
  | .map none,.map none=>true
  | .nilFunc,.nilFunc=>true
  | _,_=>false
def ckVals : List Value→List Value→Bool
  | [],[]=>true
  | x::l,y::m=>ckVal x y && ckVals l m
  | _,_=>false
def ckInfo (P : Program) (t:TypeId) (ti:TI):Bool:=
  match P.info? t with
  | none=>false
  | some i=>i.size == ti.size && i.bytes == ti.bytes && (match i.zero with | some z=>ckVals z.cells.toList ti.zero | none=>false) && ti.zero.length == ti.size
def ckTI (P : Program) (t:TypeId) (ti:TI):Bool:=ti.ty.isOther || (ckTy P t ti.ty && ckInfo P t ti)
theorem ckTy_ok {P : Program} {t:TypeId} {ty:Ty} (h:ckTy P t ty=true):TyOK P t ty:=by
  unfold ckTy at h
  cases hu:P.underlying t with
  | none=>rw[hu] at h;cases h
  | some d=>
    rw[hu] at h
    cases d<;>cases ty<;>simp at h<;>simp only[TyOK,hu]
    all_goals try simp_all
    · intro f hf
      obtain⟨i,hi,rfl⟩:=Array.mem_iff_getElem.1 hf
      exact h.2 i hi
theorem ckVal_ok {x y : Value} (h:ckVal x y=true):x=y:=by
  cases x<;>cases y<;>try (simp[ckVal] at h;done)
  case bool a b=>simp[ckVal] at h;rw[h]
  case int a b c d=>simp[ckVal] at h;rw[h.1,h.2]
  case string a b=>
    simp[ckVal] at h
    obtain⟨a⟩:=a
    obtain⟨b⟩:=b
    simp at h
    rw[h]
  case pointer a b=>cases a<;>cases b<;>simp[ckVal] at h;rfl
  case slice a b c a' b' c'=>cases a<;>cases a'<;>simp[ckVal] at h;rw[h.1,h.2]
  case map a b=>cases a<;>cases b<;>simp[ckVal] at h;rfl
  case nilFunc=>rfl
theorem ckVals_ok : ∀ {l m:List Value},ckVals l m=true→l=m
  | [],[],_=>rfl
  | x::l,y::m,h=>by
    simp[ckVals] at h
    rw[ckVal_ok h.1,ckVals_ok h.2]
  | [],_::_,h=>by simp[ckVals] at h
  | _::_,[],h=>by simp[ckVals] at h
theorem ckTI_ok {P : Program} {t:TypeId} {ti:TI} (h:ckTI P t ti=true) (hf:ti.flat=[]∨FlatOK P t ti.flat):TIOK P t ti:=by
  unfold ckTI at h
  rw[Bool.or_eq_true,Bool.and_eq_true] at h
  rcases h with h | ⟨h1,h2⟩
  · exact .inl h
  · refine .inr ⟨ckTy_ok h1,?_⟩
    unfold ckInfo at h2
    cases hi:P.info? t with
    | none=>rw[hi] at h2;cases h2
    | some i=>
      rw[hi] at h2
      simp only[Bool.and_eq_true,beq_iff_eq] at h2
      obtain⟨⟨⟨h3,h4⟩,h5⟩,h6⟩:=h2
      cases hz:i.zero with
      | none=>rw[hz] at h5;cases h5
      | some z=>
        rw[hz] at h5
        exact⟨⟨i,hi,h3,h4,z,hz,ckVals_ok h5⟩,hf,h6⟩
def Scalar (P : Program) (t:TypeId):CK→Prop
  | .int k=>P.underlying t=some (.int k)
  | .bool=>P.underlying t=some .bool
  | .str=>P.underlying t=some .string
def eqCell : Value→Value→Bool
  | .int _ a,.int _ b=>a == b
  | .bool a,.bool b=>a == b
  | .string a,.string b=>a == b
  | _,_=>false
def fitC : CK→Value→Prop
  | .int k,.int j _=>k=j
  | .bool,.bool _=>True
  | .str,.string _=>True
  | _,_=>False
theorem fits_cons {c : CK} {ks:List CK} {l:List Value} (h:fits (c::ks) l):∃ v m,l=v::m∧fitC c v∧fits ks m:=by
  cases l with
  | nil=>cases c<;>exact h.elim
  | cons v m=>
    refine⟨v,m,rfl,?_⟩
    cases c<;>cases v<;>first | exact h.elim | exact h | exact⟨trivial,h⟩
theorem eqCells_cons {c : CK} {v u:Value} {l m:List Value} (h:fitC c v) (k:fitC c u):eqCells (v::l) (u::m)=(eqCell v u && eqCells l m):=by
  cases c<;>cases v<;>(first | exact h.elim | (cases u<;>first | exact k.elim | rfl))
section
variable {P : Program} {w : World}
theorem run_equalIn_scalar (d : Nat) {t:TypeId} {c:CK} {v u:Value} (hs:Scalar P t c) (h:fitC c v) (k:fitC c u):(Op.equalIn (d+1) t v u).run P w=.ok (eqCell v u) w:=by
  cases c<;>cases v<;>(first | exact h.elim | (cases u<;>first | exact k.elim | skip))
  · have:P.underlying t=some (.int _):=hs
    cases h;cases k
    simp[Op.equalIn,run_underlying this,eqCell]
  · have:P.underlying t=some .bool:=hs
    simp[Op.equalIn,run_underlying this,eqCell]
  · have:P.underlying t=some .string:=hs
    simp[Op.equalIn,run_underlying this,eqCell]
theorem run_part_scalar {t : TypeId} {c:CK} {cs:List Value} {o:Nat} {v:Value} (hs:Scalar P t c) (h:cs[o]?=some v):(part t ⟨cs⟩ o).run P w=.ok v w:=by
  have ha:(isAgg t).run P w=.ok false w:=by
    cases c
    · have:P.underlying t=some (.int _):=hs;simp[isAgg,run_underlying this]
    · have:P.underlying t=some .bool:=hs;simp[isAgg,run_underlying this]
    · have:P.underlying t=some .string:=hs;simp[isAgg,run_underlying this]
  simp[part,Sem.run_bind,ha,Result.andThen,h]
def FieldsAre (P : Program):Nat→List Field→List CK→Prop
  | _,[],[]=>True
  | o, f :: fs, c :: ks => f.name ≠ "_" ∧ f.offset = o ∧ Scalar P f.type c ∧ FieldsAre P (o + 1) fs ks
  | _,_,_=>False
theorem run_equal_fields (d : Nat):∀ (fs:List Field) (ks:List CK) (o:Nat) (xs ys xs' ys':List Value),FieldsAre P o fs ks→fits ks xs'→fits ks ys'→xs.drop o=xs'→ys.drop o=ys' →
    (forIn fs ((none,()):Option Bool × Unit) (fun f _=>
      if f.name ≠ "_" then do
        if !(← Op.equalIn (d+1) f.type (← part f.type ⟨xs⟩ f.offset) (← part f.type ⟨ys⟩ f.offset)) then pure (ForInStep.done (some false,()))
        else pure (ForInStep.yield (none,()))
      else pure (ForInStep.yield (none,()))):Sem (Option Bool × Unit)).run P w=.ok (if eqCells xs' ys' then none else some false,()) w
  | [],ks,o,xs,ys,xs',ys',h,h1,h2,_,_=>by
    cases ks with
    | nil=>
      cases xs' with
      | nil=>cases ys' with
        | nil=>simp[eqCells]
        | cons _ _=>exact h2.elim
      | cons _ _=>exact h1.elim
    | cons _ _=>exact h.elim
  | f::fs,ks,o,xs,ys,xs',ys',h,h1,h2,h3,h4=>by
    cases ks with
    | nil=>exact h.elim
    | cons c ks=>
      obtain⟨hn,ho,hs,h⟩:=h
      obtain⟨v,l,rfl,hv,h1⟩:=fits_cons h1
      obtain⟨u,m,rfl,hu,h2⟩:=fits_cons h2
      have hx:xs[o]?=some v:=by rw[← List.head?_drop,h3];rfl
      have hy:ys[o]?=some u:=by rw[← List.head?_drop,h4];rfl
      have hx':xs.drop (o+1)=l:=by rw[← List.drop_drop,h3];rfl
      have hy':ys.drop (o+1)=m:=by rw[← List.drop_drop,h4];rfl
      have ih:=run_equal_fields d fs ks (o+1) xs ys l m h h1 h2 hx' hy'
      rw[List.forIn_cons,Sem.run_bind,if_pos hn,eqCells_cons hv hu,ho]
      simp only[Sem.run_bind,run_part_scalar hs hx,run_part_scalar hs hy,Result.andThen,run_equalIn_scalar d hs hv hu]
      cases he:eqCell v u
      · simp
      · simp only[Bool.not_true,Bool.false_eq_true,if_false,Sem.run_pure,Bool.true_and]
        exact ih
theorem run_equal_struct {t : TypeId} {fields:Array Field} {ks:List CK} {xs ys:List Value} (ht:P.underlying t=some (.struct fields)) (hst:P.stoodInHeld t=false) (hf:FieldsAre P 0 fields.toList ks)
    (h1:fits ks xs) (h2:fits ks ys):(Op.equal t (.agg ⟨xs⟩) (.agg ⟨ys⟩)).run P w=.ok (eqCells xs ys) w:=by
  show (Op.equalIn (9998+1+1) t _ _).run P w=_
  unfold Op.equalIn
  simp only[Sem.run_bind,run_underlying ht,Result.andThen,run_program,hst,Bool.false_eq_true,if_false]
  rw[← Array.forIn_toList]
  have:=run_equal_fields (P:=P) (w:=w) 9998 fields.toList ks 0 xs ys xs ys hf h1 h2 rfl rfl
  rw[this]
  cases eqCells xs ys<;>rfl
theorem flat_struct {t : TypeId} {fields:Array Field} {ks:List CK} (ht:P.underlying t=some (.struct fields)) (hst:P.stoodInHeld t=false) (hg:P.eqGuardType P.depth t=false) (hf:FieldsAre P 0 fields.toList ks):FlatOK P t ks:=by
  intro w xs ys x y h1 h2
  have h:=run_equal_struct (w:=w) ht hst hf h1 h2
  constructor
  · simp[Sem.run_bind,eqGuard,hg,Result.andThen,binOp,h]
  · simp[Sem.run_bind,eqGuard,hg,Result.andThen,binOp,h]
theorem run_equal_cells (d : Nat) {e:TypeId} {c:CK} (hs:Scalar P e c):∀ (n o:Nat) (xs ys xs' ys':List Value),fits (List.replicate n c) xs'→fits (List.replicate n c) ys'→xs.drop o=xs'→ys.drop o=ys' →
    (forIn (List.range' o n) ((none,()):Option Bool × Unit) (fun i _=>do
        if !(← Op.equalIn (d+1) e (← part e ⟨xs⟩ (i*1)) (← part e ⟨ys⟩ (i*1))) then pure (ForInStep.done (some false,()))
        else pure (ForInStep.yield (none,()))):Sem (Option Bool × Unit)).run P w=.ok (if eqCells xs' ys' then none else some false,()) w
  | 0,o,xs,ys,xs',ys',h1,h2,_,_=>by
    cases xs' with
    | nil=>cases ys' with
      | nil=>simp[eqCells]
      | cons _ _=>exact h2.elim
    | cons _ _=>exact h1.elim
  | n+1,o,xs,ys,xs',ys',h1,h2,h3,h4=>by
    obtain⟨v,l,rfl,hv,h1⟩:=fits_cons h1
    obtain⟨u,m,rfl,hu,h2⟩:=fits_cons h2
    have hx:xs[o]?=some v:=by rw[← List.head?_drop,h3];rfl
    have hy:ys[o]?=some u:=by rw[← List.head?_drop,h4];rfl
    have hx':xs.drop (o+1)=l:=by rw[← List.drop_drop,h3];rfl
    have hy':ys.drop (o+1)=m:=by rw[← List.drop_drop,h4];rfl
    have ih:=run_equal_cells d hs n (o+1) xs ys l m h1 h2 hx' hy'
    rw[List.range'_succ,List.forIn_cons,Sem.run_bind,eqCells_cons hv hu,Nat.mul_one]
    simp only[Sem.run_bind,run_part_scalar hs hx,run_part_scalar hs hy,Result.andThen,run_equalIn_scalar d hs hv hu]
    cases he:eqCell v u
    · simp
    · simp only[Bool.not_true,Bool.false_eq_true,if_false,Sem.run_pure,Bool.true_and]
      exact ih
theorem run_equal_array {t e : TypeId} {n:Nat} {c:CK} {i:TypeInfo} {xs ys:List Value} (ht:P.underlying t=some (.array n e)) (hi:P.info? e=some i) (h1s:i.size=1) (hs:Scalar P e c)
    (h1:fits (List.replicate n c) xs) (h2:fits (List.replicate n c) ys):(Op.equal t (.agg ⟨xs⟩) (.agg ⟨ys⟩)).run P w=.ok (eqCells xs ys) w:=by
  show (Op.equalIn (9998+1+1) t _ _).run P w=_
  unfold Op.equalIn
  simp only[Sem.run_bind,run_underlying ht,Result.andThen,run_size hi,h1s]
  rw[Std.Legacy.Range.forIn_eq_forIn_range']
  have:=run_equal_cells (P:=P) (w:=w) 9998 hs n 0 xs ys xs ys h1 h2 rfl rfl
  simp only[Std.Legacy.Range.size,Nat.sub_zero,Nat.add_sub_cancel,Nat.div_one]
  rw[this]
  cases eqCells xs ys<;>rfl
theorem flat_array {t e : TypeId} {n:Nat} {c:CK} {i:TypeInfo} (ht:P.underlying t=some (.array n e)) (hg:P.eqGuardType P.depth t=false) (hi:P.info? e=some i) (h1s:i.size=1) (hs:Scalar P e c):FlatOK P t (List.replicate n c):=by
  intro w xs ys x y h1 h2
  have h:=run_equal_array (w:=w) ht hi h1s hs h1 h2
  constructor
  · simp[Sem.run_bind,eqGuard,hg,Result.andThen,binOp,h]
  · simp[Sem.run_bind,eqGuard,hg,Result.andThen,binOp,h]
end
end Go.Proofs.YtgbhgfdgifkdhaaGreat.X

namespace Go.Proofs.YtgbhgfdgifkdhaaGreat.X
open Go PH
def leE (k : Nat):List En→List En→Prop→Prop
  | [],[],K=>K
  | _::l,.any::m,K=>leE k l m K
  | x::l,.v y::m,K=>x=.v y∧leE k l m K
  | x::l,.l y i::m,K=>x=.l y i∧andK (i < k) (leE k l m K)
  | _,_,_=>False
def leL : List (Option B)→List (Option B)→Prop→Prop
  | _,[],K=>K
  | _::l,none::m,K=>leL l m K
  | x::l,some y::m,K=>x=some y∧leL l m K
  | [],_::_,_=>False
def leK (env env' : List En) (loc loc':List (Option B)):Prop:=lenK loc' 0 fun k=>leE k env env' (leL loc loc' True)
theorem leE_inv {k : Nat}:∀ {l m:List En} {K:Prop},leE k l m K→K∧l.length=m.length∧∀ (t:Nat) (e:En),m[t]?=some e→e=.any∨(l[t]?=some e∧∀ x i,e=.l x i→i < k)
  | [],[],K,h=>⟨h,rfl,fun t e he=>by simp at he⟩
  | [],.any::_,_,h=>h.elim
  | [],.v _::_,_,h=>h.elim
  | [],.l _ _::_,_,h=>h.elim
  | _::_,[],_,h=>h.elim
  | x::l,y::m,K,h=>by
    have key:(y=.any∨(x=y∧∀ z i,y=.l z i→i < k))∧leE k l m K:=by
      cases y with
      | any=>exact⟨.inl rfl,h⟩
      | v y=>exact⟨.inr ⟨h.1,fun _ _ h=>by cases h⟩,h.2⟩
      | l y i=>
        obtain⟨h1,h2⟩:=h
        obtain⟨h3,h4⟩:=andK_iff.1 h2
        exact⟨.inr ⟨h1,fun _ _ h=>by cases h;exact h3⟩,h4⟩
    obtain⟨h1,h2⟩:=key
    obtain⟨h3,h4,h5⟩:=leE_inv h2
    refine⟨h3,by simp[h4],fun t e he=>?_⟩
    cases t with
    | zero=>simp at he;subst he;simpa using h1
    | succ t=>simpa using h5 t e (by simpa using he)
theorem leL_inv : ∀ {l m:List (Option B)} {K:Prop},leL l m K→K∧(∀ (i:Nat) (b:B),m[i]?=some (some b)→l[i]?=some (some b))∧m.length≤l.length
  | _,[],K,h=>⟨by unfold leL at h;exact h,by simp,by simp⟩
  | [],none::_,_,h=>h.elim
  | [],some _::_,_,h=>h.elim
  | x::l,y::m,K,h=>by
    have key:(∀ b,y=some b→x=some b)∧leL l m K:=by
      cases y with
      | none=>exact⟨(fun b h=>by cases h),h⟩
      | some y=>exact⟨(fun b e=>by rw[← e];exact h.1),h.2⟩
    obtain⟨h1,h2⟩:=key
    obtain⟨h3,h4,h5⟩:=leL_inv h2
    refine⟨h3,fun i b hb=>?_,by simpa using h5⟩
    cases i with
    | zero=>simp at hb ⊢;exact h1 b hb
    | succ i=>simpa using h4 i b (by simpa using hb)
theorem Real.weaken {φ : Fr} {env env':List En} {loc loc':List (Option B)} {H O:PH} {a:Act} {w:World} (hR:Real φ ⟨env,loc,H,O⟩ a w) (h:leK env env' loc loc'):Real φ ⟨env',loc',H,O⟩ a w:=by
  unfold leK at h
  replace h:=lenK_iff.1 h
  rw[Nat.zero_add] at h
  obtain⟨h,h1,h2⟩:=leE_inv h
  obtain⟨_,up,_⟩:=leL_inv h
  refine⟨hR.size.trans h1,?_,fun i b hb=>hR.loc i b (up i b hb),fun i j b c hb hc=>hR.apart i j b c (up i b hb) (up j c hc),hR.inH,hR.inO,hR.dis,hR.sub,hR.old,hR.frm,hR.uniq,?_⟩
  · intro t e he
    rcases h2 t e he with rfl | ⟨hl,hi⟩
    · trivial
    · have hh:=hR.env t e hl
      cases e with
      | any=>trivial
      | v x=>exact hh
      | l x i=>
        obtain⟨hx,hat⟩:=hh
        refine⟨hx,?_⟩
        have hlt:=hi x i rfl
        cases e:loc'[i]? with
        | none=>rw[List.getElem?_eq_none_iff] at e;omega
        | some z=>
          cases z with
          | none=>exact .inl rfl
          | some b=>
            have hb:=up i b e
            rcases hat with hat | ⟨b',hb',hp⟩
            · dsimp only at hat;rw[hb] at hat;cases hat
            · dsimp only at hb';rw[hb] at hb';cases hb';exact .inr ⟨b,rfl,hp⟩
  · intro d hd
    obtain⟨q,q1,q2,q3,q4,q5,q6⟩:=hR.marks d hd
    exact⟨q,q1,q2,q3,q4,q5,fun i b hb=>q6 i b (up i b hb)⟩
def Fun {α : Type} (F:(α→Prop)→Prop):Prop:=∃ f:Option α,∀ K,F K ↔ ∃ x,f=some x∧K x
theorem Fun.bind {α β : Type} {F:(α→Prop)→Prop} {G:α→(β→Prop)→Prop} (h:Fun F) (k:∀ x,Fun (G x)):Fun fun K=>F fun x=>G x K:=by
  obtain⟨f,hf⟩:=h
  cases f with
  | none=>exact⟨none,fun K=>(hf _).trans (by simp)⟩
  | some x=>
    obtain⟨g,hg⟩:=k x
    refine⟨g,fun K=>(hf _).trans (Iff.trans ?_ (hg K))⟩
    simp
theorem Fun.ret {α : Type} (x:α):Fun fun K:α→Prop=>K x:=⟨some x,fun K=>by simp⟩
theorem Fun.no {α : Type}:Fun fun _:α→Prop=>False:=⟨none,fun K=>by simp⟩
theorem Fun.set {α : Type} (l:List α) (n:Nat) (x:α):Fun (setK l n x):=by
  by_cases h:n < l.length
  · exact⟨some (l.set n x),fun K=>by rw[setK_iff];simp[h]⟩
  · exact⟨none,fun K=>by rw[setK_iff];simp[h]⟩
theorem Fun.get {α : Type} (l:List α) (n:Nat):Fun (getK l n):=⟨l[n]?,fun K=>getK_iff⟩
def havOps : List Oper→List En→(List En→Prop)→Prop
  | [],env,K=>K env
  | ⟨d,_,_,_,_,_⟩::l,env,K=>putK env d .any fun env=>havOps l env K
def havTmps : List Tmp→List En→(List En→Prop)→Prop
  | [],env,K=>K env
  | t::l,env,K=>setK env t .any fun env=>havTmps l env K
def havK : Code→List En→(List En→Prop)→Prop
  | .region _ ⟨ops⟩ _,env,K=>havOps ops env K
  | .seq a b,env,K=>havK a env fun env=>havK b env K
  | .cond _ a b,env,K=>havK a env fun env=>havK b env K
  | .block _ c,env,K=>havK c env K
  | .scope c,env,K=>havK c env K
  | .loop c,env,K=>havK c env K
  | .rangeFunc _ ⟨ps⟩ x y,env,K=>havTmps ps env fun env=>havK x env fun env=>havK y env K
  | .skip,env,K=>K env
  | .label _,env,K=>K env
  | .exit _,env,K=>K env
  | .ret,env,K=>K env
  | .goto _,env,K=>K env
  | .refuse _,env,K=>K env
def setsK : List (Nat × En)→List En→(List En→Prop)→Prop
  | [],env,K=>K env
  | (t,e)::l,env,K=>setK env t e fun env=>setsK l env K
def locsK : List (Nat × List Value)→List (Option B)→(List (Option B)→Prop)→Prop
  | [],loc,K=>K loc
  | (i,cs)::l,loc,K=>getK loc i fun b=>match b with
    | none=>False
    | some ⟨n,_,t,pub⟩=>setK loc i (some ⟨n,cs,t,pub⟩) fun loc=>locsK l loc K
def invK (c : Code) (env:List En) (loc:List (Option B)) (vals:List (Nat × En)) (cells:List (Nat × List Value)) (K:List En × List (Option B)→Prop):Prop:=
  havK c env fun env=>setsK vals env fun env=>locsK cells loc fun loc=>K (env,loc)
theorem Fun.put (env : List En) (d:Option Tmp) (e:En):Fun (putK env d e):=by
  cases d with
  | none=>exact .ret _
  | some d=>exact .set _ _ _
theorem Fun.havOps : ∀ (l:List Oper) (env:List En),Fun (havOps l env)
  | [],env=>.ret _
  | ⟨d,_,_,_,_,_⟩::l,env=>Fun.bind (F:=putK env d .any) (.put _ _ _) fun env=>Fun.havOps l env
theorem Fun.havTmps : ∀ (l:List Tmp) (env:List En),Fun (havTmps l env)
  | [],env=>.ret _
  | t::l,env=>Fun.bind (F:=setK env t .any) (.set _ _ _) fun env=>Fun.havTmps l env
theorem Fun.hav : ∀ (c:Code) (env:List En),Fun (havK c env)
  | .region _ ⟨ops⟩ _,env=>.havOps ops env
  | .seq a b,env=>Fun.bind (F:=havK a env) (.hav a env) fun env=>.hav b env
  | .cond _ a b,env=>Fun.bind (F:=havK a env) (.hav a env) fun env=>.hav b env
  | .block _ c,env=>.hav c env
  | .scope c,env=>.hav c env
  | .loop c,env=>.hav c env
  | .rangeFunc _ ⟨ps⟩ x y,env=>Fun.bind (F:=X.havTmps ps env) (.havTmps ps env) fun env=>Fun.bind (F:=havK x env) (.hav x env) fun env=>.hav y env
  | .skip,env=>.ret _
  | .label _,env=>.ret _
  | .exit _,env=>.ret _
  | .ret,env=>.ret _
  | .goto _,env=>.ret _
  | .refuse _,env=>.ret _
theorem Fun.sets : ∀ (l:List (Nat × En)) (env:List En),Fun (setsK l env)
  | [],env=>.ret _
  | (t,e)::l,env=>Fun.bind (F:=setK env t e) (.set _ _ _) fun env=>Fun.sets l env
theorem Fun.locs : ∀ (l:List (Nat × List Value)) (loc:List (Option B)),Fun (locsK l loc)
  | [],loc=>.ret _
  | (i,cs)::l,loc=>Fun.bind (F:=getK loc i) (.get _ _) fun b=>by
    cases b with
    | none=>exact .no
    | some b=>exact Fun.bind (F:=setK loc i _) (.set _ _ _) fun loc=>Fun.locs l loc
theorem Fun.inv (c : Code) (env:List En) (loc:List (Option B)) (vals:List (Nat × En)) (cells:List (Nat × List Value)):Fun (invK c env loc vals cells):=
  Fun.bind (F:=havK c env) (.hav c env) fun env=>Fun.bind (F:=setsK vals env) (.sets _ _) fun env=>Fun.bind (F:=locsK cells loc) (.locs _ _) fun loc=>.ret _
section
variable {Γ : TypeId → TI} {P : Program} {r : Option Nat}
theorem W_loop {pol : Tmp→Pol} {c:Code} {env:List En} {loc:List (Option B)} {H O:PH} {K:Exit→S→Prop} (hΓ:∀ t,TIOK P t (Γ t)) (ι:Type) (Φ:ι→Prop) (μ:ι→Nat)
    (vals:ι→List (Nat × En)) (cells:ι→List (Nat × List Value)) (HH OO:ι→PH)
    (h0:∃ i,Φ i∧HH i=H∧OO i=O∧invK c env loc (vals i) (cells i) fun p=>match p with
      | (env',loc')=>leK env env' loc loc')
    (hb:∀ i,Φ i→invK c env loc (vals i) (cells i) fun p=>match p with
      | (env',loc')=>codeK Γ P r pol c ⟨env',loc',HH i,OO i⟩ fun e s'=>match e with
        | .normal=>∃ j,Φ j∧μ j < μ i∧match s' with
          | ⟨e',l',H',O'⟩=>HH j=H'∧OO j=O'∧invK c env loc (vals j) (cells j) fun p=>match p with
            | (e'',l'')=>leK e' e'' l' l''
        | e=>K e s'):W P r (.loop c) ⟨env,loc,H,O⟩ K:=by
  unfold W
  intro φ a w hr hR
  have step:∀ i s',Φ i→(match s' with
      | (⟨e',l',H',O'⟩:S)=>HH i=H'∧OO i=O'∧invK c env loc (vals i) (cells i) fun p=>match p with
            | (e'',l'')=>leK e' e'' l' l'')→∀ a' w',Real φ s' a' w'→∃ env' loc',Real φ ⟨env',loc',HH i,OO i⟩ a' w' ∧
        codeK Γ P r pol c ⟨env',loc',HH i,OO i⟩ fun e s'=>match e with
        | .normal=>∃ j,Φ j∧μ j < μ i∧match s' with
          | ⟨e',l',H',O'⟩=>HH j=H'∧OO j=O'∧invK c env loc (vals j) (cells j) fun p=>match p with
            | (e'',l'')=>leK e' e'' l' l''
        | e=>K e s':=by
    intro i s' hΦ hs a' w' hR'
    obtain⟨e',l',H',O'⟩:=s'
    obtain⟨rfl,rfl,hi⟩:=hs
    obtain⟨f,hf⟩:=Fun.inv c env loc (vals i) (cells i)
    obtain⟨⟨env1,loc1⟩,h1,h2⟩:=(hf _).1 hi
    obtain⟨⟨env2,loc2⟩,h3,h4⟩:=(hf _).1 (hb i hΦ)
    rw[h1] at h3
    cases h3
    exact⟨env1,loc1,hR'.weaken h2,h4⟩
  intro b k cs hro hb' hrm
  have key:∀ m i,μ i=m→Φ i→∀ s' a w,(match s' with
      | (⟨e',l',H',O'⟩:S)=>HH i=H'∧OO i=O'∧invK c env loc (vals i) (cells i) fun p=>match p with
            | (e'',l'')=>leK e' e'' l' l'')→Real φ s' a w →
      ∃ e a' w',PostOf φ K e a' w'∧ArrivesIn (Machine.fenced P (wide r)) P (lone (b.atR a (.code c::.inLoop c::k)) cs w) b k cs e a' w':=by
    intro m
    induction m using Nat.strongRecOn with
    | _ m ih=>
      intro i hm hΦ s' a w hs hR
      obtain⟨env',loc',hR',hc⟩:=step i s' hΦ hs a w hR
      obtain⟨e,a₁,w₁,⟨hok,s₁,hk,hR₁⟩,harr⟩:=codeK_sound hΓ c _ _ hc φ a w hr hR' b (.inLoop c::k) cs hro hb' hrm
      cases e with
      | normal=>
        obtain⟨j,hj,hlt,hs₁⟩:=hk
        obtain⟨e₂,a₂,w₂,hq₂,harr₂⟩:=ih (μ j) (hm ▸ hlt) j rfl hj s₁ a₁ w₁ hs₁ hR₁
        exact⟨e₂,a₂,w₂,hq₂,.of_steps (StepsIn.trans harr (.one (fenced_calm hb' hrm rfl) stepR_inLoop)) harr₂⟩
      | exit id=>exact⟨_,a₁,w₁,⟨hok,s₁,hk,hR₁⟩,.pass (x:=.inLoop c) rfl (fun _ _=>.inl (by simp)) harr⟩
      | goto l=>exact⟨_,a₁,w₁,⟨hok,s₁,hk,hR₁⟩,.pass (x:=.inLoop c) rfl (fun _ _=>.inl (by simp)) harr⟩
      | ret=>exact⟨_,a₁,w₁,⟨hok,s₁,hk,hR₁⟩,.pass (x:=.inLoop c) rfl (fun _ _=>.inl (by simp)) harr⟩
      | panic ch=>cases hok
      | outgrown=>cases hok
  obtain⟨i,hΦ,h1,h2,hi⟩:=h0
  obtain⟨e,a',w',hq,harr⟩:=key _ i rfl hΦ ⟨env,loc,H,O⟩ a w ⟨h1,h2,hi⟩ hR
  exact⟨e,a',w',hq,.of_steps (.one (fenced_calm hb' hrm rfl) stepR_loop) harr⟩
end
end Go.Proofs.YtgbhgfdgifkdhaaGreat.X
