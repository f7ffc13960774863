/- A logic for code of the model, proved sound, and what functions do that the laws on matrices come to; nothing is asked. Part 2. -/
import Derived.Test.YtgbhgfdgifkdhaaGreatM1
import Derived.IntWalk

set_option linter.unusedVariables false
set_option linter.unusedSimpArgs false
set_option linter.unnecessarySimpa false

namespace Go.Proofs.YtgbhgfdgifkdhaaGreat.X
open Go PH
inductive Cls where
  | lock | pend | pendO | pendH | late
  deriving DecidableEq
def pubOf : Option B→Option B
  | some ⟨n,cs,t,true⟩=>some ⟨n,cs,t,true⟩
  | _=>none
def pubsK : List (Option B)→(List (Option B)→Prop)→Prop
  | [],K=>K []
  | x::l,K=>match x with
    | some ⟨n,cs,t,pub⟩=>match pub with
      | true=>pubsK l fun l=>K (some ⟨n,cs,t,true⟩::l)
      | false=>pubsK l fun l=>K (none::l)
    | none=>pubsK l fun l=>K (none::l)
def pubE (loc : List (Option B)) (e:En) (K:Prop):Prop:=
  match e with
  | .l _ i=>getK loc i fun b=>match b with
    | none=>False
    | some _=>K
  | _=>K
theorem pubsK_inv : ∀ {l:List (Option B)} {K:List (Option B)→Prop},pubsK l K→K (l.map pubOf)
  | [],_,h=>h
  | none::l,K,h=>pubsK_inv (l:=l) (K:=fun l=>K (none::l)) h
  | some ⟨n,cs,t,true⟩::l,K,h=>pubsK_inv (l:=l) (K:=fun l=>K (some ⟨n,cs,t,true⟩::l)) h
  | some ⟨n,cs,t,false⟩::l,K,h=>pubsK_inv (l:=l) (K:=fun l=>K (none::l)) h
section
variable (Γ : TypeId → TI)
def drawK (P : Program) (pol:Tmp→Pol) (ops:List Oper):List (Nat × Cls)→S→(S→Prop)→Prop
  | [],s,K=>K s
  | (i,c)::rest,s,K=>getK ops i fun o=>match o with
    | ⟨d,o,_,_,_,g⟩=>match s with
      | ⟨env,loc,H,O⟩=>match c with
        | .late=>match o with
          | .alloc t=>tyK Γ t fun _ _ _ z _=>∀ b:Nat,lenK loc 0 fun k=>appK loc [some ⟨b,z,t,false⟩] fun loc=>putK env d (.l (.pointer (some ⟨b,0,none⟩)) k) fun env=>drawK P pol ops rest ⟨env,loc,H,O⟩ K
          | _=>False
        | .pend=>guardK ops g env
          (fun env=>opK Γ P (pol (d.getD 0)) o ⟨env,loc,H,emp⟩ fun s e=>match s with
            | ⟨env,loc,H,_⟩=>putK env d e fun env=>drawK P pol ops rest ⟨env,loc,H,O⟩ K)
          (fun env=>putK env d (.v undef) fun env=>drawK P pol ops rest ⟨env,loc,H,O⟩ K)
        | .pendH=>guardK ops g env
          (fun env=>pubsK loc fun loc'=>opK Γ P (pol (d.getD 0)) o ⟨env,loc',H,emp⟩ fun s e=>match s with
            | ⟨env,loc',H,_⟩=>pubE loc' e <| putK env d e fun env=>drawK P pol ops rest ⟨env,loc,H,O⟩ K)
          (fun env=>putK env d (.v undef) fun env=>drawK P pol ops rest ⟨env,loc,H,O⟩ K)
        | _=>guardK ops g env
          (fun env=>opK Γ P (pol (d.getD 0)) o ⟨env,loc,H,O⟩ fun s e=>match s with
            | ⟨env,loc,H,O⟩=>putK env d e fun env=>drawK P pol ops rest ⟨env,loc,H,O⟩ K)
          (fun env=>putK env d (.v undef) fun env=>drawK P pol ops rest ⟨env,loc,H,O⟩ K)
end
def Lin (s : S) (F:(S→En→Prop)→Prop):Prop:=∀ K,F K→∃ e,(e ≠ .any)∧K s e∧∀ K',K' s e→F K'
def GLin {α : Type} (G:(α→Prop)→Prop):Prop:=∀ K,G K→∃ x,K x∧∀ K',K' x→G K'
theorem Lin.bind {α : Type} {s:S} {G:(α→Prop)→Prop} {F:α→(S→En→Prop)→Prop} (h:GLin G) (k:∀ x,Lin s (F x)):Lin s fun K=>G fun x=>F x K:=by
  intro K hK
  obtain⟨x,hx,r⟩:=h _ hK
  obtain⟨e,h1,h2,r'⟩:=k x K hx
  exact⟨e,h1,h2,fun K' h=>r _ (r' K' h)⟩
theorem Lin.no {s : S}:Lin s fun _=>False:=fun _ h=>h.elim
theorem Lin.v {s : S} (x:Value):Lin s fun K=>K s (.v x):=fun _ h=>⟨_,(by simp),h,fun _ h=>h⟩
theorem Lin.l {s : S} (x:Value) (i:Nat):Lin s fun K=>K s (.l x i):=fun _ h=>⟨_,(by simp),h,fun _ h=>h⟩
theorem Lin.and {s : S} {p:Prop} [Decidable p] {F:(S→En→Prop)→Prop} (k:Lin s F):Lin s fun K=>andK p (F K):=by
  intro K hK
  obtain⟨hp,hK⟩:=andK_iff.1 hK
  obtain⟨e,h1,h2,r⟩:=k K hK
  exact⟨e,h1,h2,fun K' h=>andK_iff.2 ⟨hp,r K' h⟩⟩
theorem Lin.none {s : S} {α:Type} {x:Option α} {F:(S→En→Prop)→Prop} (k:Lin s F):Lin s fun K=>noneK x (F K):=by
  intro K hK
  obtain⟨hp,hK⟩:=noneK_iff.1 hK
  obtain⟨e,h1,h2,r⟩:=k K hK
  exact⟨e,h1,h2,fun K' h=>noneK_iff.2 ⟨hp,r K' h⟩⟩
theorem Lin.ty {s : S} {Γ:TypeId→TI} {t:TypeId} {F:Ty→Nat→Nat→List Value→List CK→(S→En→Prop)→Prop} (k:∀ a b c d e,Lin s (F a b c d e)) :
    Lin s fun K=>tyK Γ t fun a b c d e=>F a b c d e K:=k _ _ _ _ _
theorem Fun.glin {α : Type} {G:(α→Prop)→Prop} (h:Fun G):GLin G:=by
  obtain⟨f,hf⟩:=h
  intro K hK
  obtain⟨x,hx,hk⟩:=(hf K).1 hK
  exact⟨x,hk,fun K' h=>(hf K').2 ⟨x,hx,h⟩⟩
theorem Fun.drop {α : Type} (l:List α) (n:Nat):Fun (dropK l n):=by
  by_cases h:n≤l.length
  · exact⟨some (l.drop n),fun K=>by rw[dropK_iff];simp[h]⟩
  · exact⟨none,fun K=>by rw[dropK_iff];simp[h]⟩
theorem Fun.take {α : Type} (l:List α) (n:Nat):Fun (takeK l n):=by
  by_cases h:n≤l.length
  · exact⟨some (l.take n),fun K=>by rw[takeK_iff];simp[h]⟩
  · exact⟨none,fun K=>by rw[takeK_iff];simp[h]⟩
theorem Fun.over {α : Type} (l:List α) (n:Nat) (xs:List α):Fun (overK l n xs):=by
  by_cases h:n+xs.length≤l.length
  · exact⟨some (l.take n++xs++l.drop (n+xs.length)),fun K=>by rw[overK_iff];simp[h]⟩
  · exact⟨none,fun K=>by rw[overK_iff];simp[h]⟩
theorem Fun.len {α : Type} (l:List α) (n:Nat):Fun (lenK l n):=⟨some (n+l.length),fun K=>by rw[lenK_iff];simp⟩
theorem Fun.app {α : Type} (l m:List α):Fun (appK l m):=⟨some (l++m),fun K=>by rw[appK_iff];simp⟩
theorem Fun.val (e : En):Fun e.valK:=by
  cases e
  · exact .no
  · exact .ret _
  · exact .ret _
theorem Fun.ev (env : List En) (x:Operand):Fun (evK env x):=by
  cases x with
  | tmp t=>
    refine Fun.bind (F:=getK env t) (.get _ _) fun e=>?_
    cases e
    · exact .no
    · exact .ret _
    · exact .ret _
  | const v=>exact .ret _
  | global g=>exact .ret _
  | func f=>exact .ret _
theorem evK_some {env : List En} {x:Operand} {K:En→Prop} (h:evK env x K):∃ e,e ≠ .any∧K e∧∀ K',K' e→evK env x K':=by
  cases x with
  | tmp t=>
    obtain⟨e,he,hk⟩:=getK_iff.1 h
    cases e with
    | any=>exact hk.elim
    | v x=>exact⟨_,by simp,hk,fun K' h=>getK_iff.2 ⟨_,he,h⟩⟩
    | l x i=>exact⟨_,by simp,hk,fun K' h=>getK_iff.2 ⟨_,he,h⟩⟩
  | const v=>exact⟨_,by simp,h,fun _ h=>h⟩
  | global g=>exact⟨_,by simp,h,fun _ h=>h⟩
  | func f=>exact⟨_,by simp,h,fun _ h=>h⟩
theorem Fun.evs (env : List En):∀ l,Fun (evsK env l)
  | []=>.ret _
  | x::l=>Fun.bind (F:=evK env x) (.ev _ _) fun e=>Fun.bind (F:=e.valK) (.val _) fun v=>Fun.bind (F:=evsK env l) (Fun.evs env l) fun vs=>.ret _
theorem Fun.one (x : List Value):∀ l,Fun (fun K:List Value→Prop=>oneK l (K x))
  | []=>.ret _
  | v::l=>by
    have:=Fun.one x l
    cases v<;>first | exact this | exact .no
theorem Fun.cells (v : Value):Fun (cellsK v):=by
  cases v with
  | agg cs=>obtain⟨cs⟩:=cs;exact Fun.one cs cs
  | tuple vs=>exact .no
  | _=>exact .ret _
theorem Fun.mk (ty : Ty) (cs:List Value):Fun (mkK ty cs):=by
  have one:Fun fun K:Value→Prop=>match cs with
    | [v]=>K v
    | _=>False:=by
    match cs with
    | []=>exact .no
    | [v]=>exact .ret _
    | _::_::_=>exact .no
  cases ty<;>first | exact one | exact .ret _ | exact .no
theorem Fun.andK {α : Type} {p:Prop} [Decidable p] {F:(α→Prop)→Prop} (h:Fun F):Fun fun K=>X.andK p (F K):=by
  by_cases hp:p
  · obtain⟨f,hf⟩:=h
    exact⟨f,fun K=>andK_iff.trans (by rw[← hf K];simp[hp])⟩
  · exact⟨none,fun K=>andK_iff.trans (by simp[hp])⟩
theorem Fun.fill (env : List En) (place:Nat→(Nat→Nat→Prop)→Prop) (hp:∀ i,Fun fun K:Nat × Nat→Prop=>place i fun a b=>K (a,b)):∀ ps cs,Fun (fillK env place cs ps)
  | [],cs=>.ret _
  | (i,x)::ps,cs=>Fun.bind (F:=fun K:Nat × Nat→Prop=>place i fun a b=>K (a,b)) (G:=fun p K=>evK env x fun e=>e.valK fun v=>cellsK v fun vs=>lenK vs 0 fun m=>X.andK (m=p.2) (overK cs p.1 vs fun cs=>fillK env place cs ps K)) (hp i) fun p=>
    Fun.bind (F:=evK env x) (.ev _ _) fun e=>Fun.bind (F:=e.valK) (.val _) fun v=>Fun.bind (F:=cellsK v) (.cells _) fun vs=>Fun.bind (F:=lenK vs 0) (.len _ _) fun m=>
      Fun.andK (Fun.bind (F:=overK cs p.1 vs) (.over _ _ _) fun cs=>Fun.fill env place hp ps cs)
theorem Fun.bound (env : List En) (x:Option Operand) (d:Int):Fun (boundK env x d):=by
  cases x with
  | none=>exact .ret _
  | some x=>
    refine Fun.bind (F:=evK env x) (G:=fun e (K:Int→Prop)=>e.valK fun v=>match v with
      | .int _ n=>K n
      | _=>False) (.ev _ _) fun e=>Fun.bind (F:=e.valK) (.val _) fun v=>?_
    cases v<;>first | exact .ret _ | exact .no
theorem Fun.int (op : BinOp) (k:IntKind) (a b:Int):Fun (intK op k a b):=by
  cases op<;>first | exact .ret _ | exact .no | exact Fun.andK (.ret _)
theorem Fun.fits {α : Type} {F:(α→Prop)→Prop} (h:Fun F):∀ ks l,Fun fun K=>fitsK ks l (F K)
  | [],[]=>h
  | [],_::_=>.no
  | c::_,[]=>by cases c<;>exact .no
  | c::ks,v::l=>by
    have:=Fun.fits h ks l
    cases c<;>cases v<;>first | exact this | exact .no | exact Fun.andK this
theorem Fun.bin (Γ : TypeId→TI) (op:BinOp) (t:TypeId) (x y:Value):Fun (binK Γ op t x y):=by
  cases x<;>try exact .no
  · cases y<;>try exact .no
    rename_i a b
    unfold binK
    dsimp only
    unfold tyK
    obtain⟨ty,_,_,_,_⟩:=Γ t
    cases ty<;>try exact .no
    cases op<;>first | exact .ret _ | exact .no
  · cases y<;>try exact .no
    cases op<;>first | exact Fun.andK (.ret _) | exact Fun.andK (Fun.int _ _ _ _)
  · cases y<;>try exact .no
    rename_i ad _ _ ad' _ _
    cases ad' with
    | some _=>exact .no
    | none=>
    unfold binK
    dsimp only
    unfold tyK
    obtain⟨ty,_,_,_,_⟩:=Γ t
    cases ty<;>try exact .no
    cases op<;>first | exact .ret _ | exact .no
  · rename_i xs
    cases y<;>try exact .no
    rename_i ys
    obtain⟨xs⟩:=xs
    obtain⟨ys⟩:=ys
    unfold binK
    dsimp only
    unfold tyK
    obtain⟨ty,_,_,_,fl⟩:=Γ t
    have main:Fun fun K:Value→Prop=>match fl with
        | []=>False
        | fl=>fitsK fl xs (fitsK fl ys (match op with
          | .eql=>K (.bool (eqCells xs ys))
          | .neq=>K (.bool (!eqCells xs ys))
          | _=>False)):=by
      cases fl with
      | nil=>exact .no
      | cons c fl=>
        refine Fun.fits (F:=fun K:Value→Prop=>fitsK (c::fl) ys (match op with
          | .eql=>K (.bool (eqCells xs ys))
          | .neq=>K (.bool (!eqCells xs ys))
          | _=>False)) (Fun.fits (F:=fun K:Value→Prop=>match op with
          | .eql=>K (.bool (eqCells xs ys))
          | .neq=>K (.bool (!eqCells xs ys))
          | _=>False) ?_ _ _) _ _
        cases op<;>first | exact .ret _ | exact .no
    cases ty<;>first | exact main | exact .no
end Go.Proofs.YtgbhgfdgifkdhaaGreat.X

namespace Go.Proofs.YtgbhgfdgifkdhaaGreat.X
open Go PH
theorem GLin.rd {H O : PH} {a:Addr} {sz:Nat}:GLin fun K:List Value→Prop=>∃ cs,Rd H O a sz cs∧K cs:=fun _ ⟨cs,h,hk⟩=>⟨cs,hk,fun _ h'=>⟨cs,h,h'⟩⟩
theorem Lin.ev {s : S} {env:List En} {x:Operand}:Lin s fun K=>evK env x fun e=>K s e:=fun _ h=>by
  obtain⟨e,h1,h2,h3⟩:=evK_some h
  exact⟨e,h1,h2,fun K' hk=>h3 _ hk⟩
section
variable {Γ : TypeId → TI} {P : Program} {pol : Pol}
set_option maxHeartbeats 1000000
theorem light_lin {o : Op} (s:S) (h:Op.kd o=.light):Lin s (opK Γ P pol o s):=by
  obtain⟨env,loc,H,O⟩:=s
  have ev:=fun x=>(Fun.ev env x).glin
  have val:=fun e=>(Fun.val e).glin
  unfold opK
  dsimp only
  cases o<;>try (cases h;done)
  case move x=>exact .ev
  case assign x=>exact .ev
  case pick c a b=>
    refine .bind (ev c) fun e=>.bind (val e) fun v=>?_
    cases v<;>try exact .no
    rename_i b
    cases b<;>exact .ev
  case load t x=>
    refine .bind (ev x) fun e=>?_
    cases e with
    | any=>exact .no
    | v x=>
      cases x<;>try exact .no
      rename_i p
      cases p with
      | none=>exact .no
      | some a=>exact Lin.ty fun _ sz _ _ _=>.bind (G:=fun K=>∃ cs,Rd H O a sz cs∧K cs) GLin.rd fun cs=>.bind (Fun.mk _ _).glin fun v=>.v _
    | l x i=>
      cases x<;>try exact .no
      rename_i p
      cases p with
      | none=>exact .no
      | some a=>
        refine .bind (Fun.get _ _).glin fun b=>?_
        cases b with
        | none=>exact .no
        | some b=>exact Lin.ty fun _ _ _ _ _=>.bind (Fun.drop _ _).glin fun cs=>.bind (Fun.take _ _).glin fun cs=>.bind (Fun.mk _ _).glin fun v=>.v _
  case nilCheck x=>
    refine .bind (ev x) fun e=>?_
    cases e with
    | any=>exact .no
    | v x=>
      cases x<;>try exact .no
      rename_i p
      cases p with
      | none=>exact .no
      | some a=>exact .v _
    | l x i=>
      cases x<;>try exact .no
      rename_i p
      cases p with
      | none=>exact .no
      | some a=>exact .l _ _
  case binOp op t x y u=>exact .bind (ev _) fun e=>.bind (val e) fun x=>.bind (ev _) fun e=>.bind (val e) fun y=>.bind (Fun.bin _ _ _ _ _).glin fun v=>.v _
  case unOp op t x=>
    refine .bind (ev _) fun e=>.bind (val e) fun x=>?_
    cases op<;>try exact .no
    · cases x<;>first | exact .no | exact .v _
    · cases x<;>first | exact .no | exact .v _
  case convert ts td x=>
    refine .bind (ev _) fun e=>.bind (val e) fun x=>?_
    cases x<;>try exact .no
    refine Lin.ty fun ty _ _ _ _=>?_
    have:∀ n:Int,Lin ⟨env,loc,H,O⟩ fun K=>tyK Γ td fun ty _ _ _ _=>match ty with
        | .int k=>K ⟨env,loc,H,O⟩ (.v (.int k (k.wrap n)))
        | _=>False:=fun n=>Lin.ty fun ty _ _ _ _=>by cases ty<;>first | exact .v _ | exact .no
    cases ty<;>first | exact this _ | exact .no
  case makeFunc fn first cap=>
    obtain⟨first⟩:=first
    obtain⟨cap⟩:=cap
    exact .bind (Fun.evs _ _).glin fun f=>.bind (Fun.evs _ _).glin fun c=>.v _
  case slice t x lo hi mx=>
    cases mx with
    | some m=>exact .no
    | none=>
    refine .bind (ev _) fun e=>Lin.ty fun ty _ _ _ _=>.bind (val e) fun v=>?_
    cases ty<;>try exact .no
    · refine Lin.ty fun ty sz _ _ _=>?_
      have:Lin ⟨env,loc,H,O⟩ fun K=>match v with
        | .slice a len cap=>
          boundK env hi len fun h=>boundK env lo 0 fun l=>
          andK (0≤l) <| andK (l≤h) <| andK (h≤(cap:Int)) <| K ⟨env,loc,H,O⟩ (.v (.slice (if cap=l.toNat then a else a.map (·.add (l.toNat*sz))) (h.toNat - l.toNat) (cap - l.toNat)))
        | _=>False:=by
        cases v<;>try exact .no
        exact .bind (Fun.bound _ _ _).glin fun h=>.bind (Fun.bound _ _ _).glin fun l=>.and (.and (.and (.v _)))
      cases ty<;>first | exact this | exact .no
    · rename_i n et
      cases lo with
      | some _=>exact .no
      | none=>
        cases hi with
        | some y=>
          refine Lin.ty fun ty _ _ _ _=>?_
          have:Lin ⟨env,loc,H,O⟩ fun K=>match e with
            | .l v i=>match v with
              | .pointer (some a)=>boundK env (some y) 0 fun h=>andK (0≤h) <| andK (h≤(n:Int)) <| andK (n ≠ 0) <| K ⟨env,loc,H,O⟩ (.l (.slice (some a) h.toNat n) i)
              | _=>False
            | .v v=>match v with
              | .pointer (some a)=>boundK env (some y) 0 fun h=>andK (0≤h) <| andK (h≤(n:Int)) <| andK (n ≠ 0) <| K ⟨env,loc,H,O⟩ (.v (.slice (some a) h.toNat n))
              | _=>False
            | _=>False:=by
            cases e with
            | any=>exact .no
            | v x=>
              cases x<;>try exact .no
              rename_i p
              cases p with
              | none=>exact .no
              | some a=>exact .bind (Fun.bound _ _ _).glin fun h=>.and (.and (.and (.v _)))
            | l x i=>
              cases x<;>try exact .no
              rename_i p
              cases p with
              | none=>exact .no
              | some a=>exact .bind (Fun.bound _ _ _).glin fun h=>.and (.and (.and (.l _ _)))
          cases ty<;>first | exact this | exact .no
        | none=>
          refine Lin.ty fun ty _ _ _ _=>?_
          have:Lin ⟨env,loc,H,O⟩ fun K=>match e with
            | .l v i=>match v with
              | .pointer (some a)=>andK (n ≠ 0) <| K ⟨env,loc,H,O⟩ (.l (.slice (some a) n n) i)
              | _=>False
            | .v v=>match v with
              | .pointer (some a)=>andK (n ≠ 0) <| K ⟨env,loc,H,O⟩ (.v (.slice (some a) n n))
              | _=>False
            | _=>False:=by
            cases e with
            | any=>exact .no
            | v x=>
              cases x<;>try exact .no
              rename_i p
              cases p with
              | none=>exact .no
              | some a=>exact .and (.v _)
            | l x i=>
              cases x<;>try exact .no
              rename_i p
              cases p with
              | none=>exact .no
              | some a=>exact .and (.l _ _)
          cases ty<;>first | exact this | exact .no
  case fieldAddr t x f=>
    refine .bind (ev _) fun e=>Lin.ty fun ty _ _ _ _=>?_
    cases ty<;>try exact .no
    refine .bind (Fun.get _ _).glin fun p=>?_
    obtain⟨fo,ft⟩:=p
    refine Lin.ty fun ty sz _ _ _=>?_
    have:Lin ⟨env,loc,H,O⟩ fun K=>andK (sz ≠ 0) <| match e with
          | .any=>False
          | .l x i=>match x with
            | .pointer (some ⟨b,off,sp⟩)=>noneK sp <| K ⟨env,loc,H,O⟩ (.l (.pointer (some ⟨b,off+fo,none⟩)) i)
            | _=>False
          | .v x=>match x with
            | .pointer (some ⟨b,off,sp⟩)=>noneK sp <| K ⟨env,loc,H,O⟩ (.v (.pointer (some ⟨b,off+fo,none⟩)))
            | _=>False:=by
      refine .and ?_
      cases e with
      | any=>exact .no
      | v x=>
        cases x<;>try exact .no
        rename_i p
        cases p with
        | none=>exact .no
        | some a=>exact .none (.v _)
      | l x i=>
        cases x<;>try exact .no
        rename_i p
        cases p with
        | none=>exact .no
        | some a=>exact .none (.l _ _)
    cases ty<;>first | exact this | exact .no
  case field t x f=>
    refine .bind (ev _) fun e=>.bind (val _) fun v=>Lin.ty fun ty _ _ _ _=>?_
    cases ty<;>try exact .no
    refine .bind (Fun.get _ _).glin fun p=>?_
    obtain⟨fo,ft⟩:=p
    refine Lin.ty fun ty sz _ _ _=>?_
    cases v<;>try exact .no
    rename_i cs
    obtain⟨cs⟩:=cs
    exact .bind (Fun.drop _ _).glin fun cs=>.bind (Fun.take _ _).glin fun cs=>.bind (Fun.mk _ _).glin fun v=>.v _
  case indexAddr t x i=>
    refine .bind (ev _) fun e=>.bind (ev _) fun f=>.bind (val _) fun i=>Lin.ty fun ty _ _ _ _=>?_
    cases i<;>try exact .no
    rename_i k i
    have main:∀ (n sz:Nat),Lin ⟨env,loc,H,O⟩ fun K=>match e with
          | .any=>False
          | .l x j=>match x with
            | .pointer (some ⟨b,off,sp⟩)=>noneK sp <| andK (0≤i) <| andK (i < (n:Int)) <| K ⟨env,loc,H,O⟩ (.l (.pointer (some ⟨b,off+i.toNat*sz,none⟩)) j)
            | _=>False
          | .v x=>match x with
            | .pointer (some ⟨b,off,sp⟩)=>noneK sp <| andK (0≤i) <| andK (i < (n:Int)) <| K ⟨env,loc,H,O⟩ (.v (.pointer (some ⟨b,off+i.toNat*sz,none⟩)))
            | _=>False:=by
      intro n sz
      cases e with
      | any=>exact .no
      | v x=>
        cases x<;>try exact .no
        rename_i p
        cases p with
        | none=>exact .no
        | some a=>exact .none (.and (.and (.v _)))
      | l x i=>
        cases x<;>try exact .no
        rename_i p
        cases p with
        | none=>exact .no
        | some a=>exact .none (.and (.and (.l _ _)))
    have main2:∀ (sz:Nat),Lin ⟨env,loc,H,O⟩ fun K=>match (generalizing:=false) e with
          | .any=>False
          | .l x j=>match (generalizing:=false) x with
            | .slice (some ⟨b,off,sp⟩) len _=>noneK sp <| andK (0≤i) <| andK (i < (len:Int)) <| K ⟨env,loc,H,O⟩ (.l (.pointer (some ⟨b,off+i.toNat*sz,none⟩)) j)
            | _=>False
          | .v x=>match (generalizing:=false) x with
            | .slice (some ⟨b,off,sp⟩) len _=>noneK sp <| andK (0≤i) <| andK (i < (len:Int)) <| K ⟨env,loc,H,O⟩ (.v (.pointer (some ⟨b,off+i.toNat*sz,none⟩)))
            | _=>False:=by
      intro sz
      cases e with
      | any=>exact .no
      | v x=>
        cases x<;>try exact .no
        rename_i p _ _
        cases p with
        | none=>exact .no
        | some a=>exact .none (.and (.and (.v _)))
      | l x i=>
        cases x<;>try exact .no
        rename_i p _ _
        cases p with
        | none=>exact .no
        | some a=>exact .none (.and (.and (.l _ _)))
    cases ty<;>try exact .no
    · refine Lin.ty fun ty sz _ _ _=>?_
      cases ty
      exact main2 sz
      all_goals first | exact main2 sz | exact .no
    · refine Lin.ty fun ty sz _ _ _=>?_
      cases ty<;>first | exact main _ sz | exact .no
  case index t x i=>
    refine .bind (ev _) fun e=>.bind (val _) fun x=>.bind (ev _) fun f=>.bind (val _) fun i=>Lin.ty fun ty _ _ _ _=>?_
    cases i<;>try exact .no
    cases ty<;>try exact .no
    refine Lin.ty fun ty sz _ _ _=>?_
    cases x<;>try exact .no
    rename_i cs
    obtain⟨cs⟩:=cs
    exact .and (.and (.bind (Fun.drop _ _).glin fun cs=>.bind (Fun.take _ _).glin fun cs=>.bind (Fun.mk _ _).glin fun v=>.v _))
  case extract x i=>
    refine .bind (ev _) fun e=>.bind (val _) fun v=>?_
    cases v<;>try exact .no
    rename_i vs
    obtain⟨vs⟩:=vs
    exact .bind (Fun.get _ _).glin fun v=>.v _
  case build t ps=>
    obtain⟨ps⟩:=ps
    refine Lin.ty fun ty _ _ z _=>?_
    cases ty<;>try exact .no
    · refine Lin.ty fun ty sz _ _ _=>?_
      have:Lin ⟨env,loc,H,O⟩ fun K=>fillK env (fun i k=>k (i*sz) sz) z ps fun cs=>K ⟨env,loc,H,O⟩ (.v (.agg ⟨cs⟩)):=
        .bind (Fun.fill env _ (fun i=>.ret (i*sz,sz)) _ _).glin fun cs=>.v _
      cases ty<;>first | exact this | exact .no
    · rename_i fs
      refine .bind (Fun.fill env _ (fun i=>?_) _ _).glin fun cs=>.v _
      refine Fun.bind (F:=getK fs i) (G:=fun p (K:Nat × Nat→Prop)=>match p with | (off,ft)=>tyK Γ ft fun ty sz _ _ _=>match ty with | .other=>False | _=>K (off,sz)) (.get _ _) fun p=>?_
      obtain⟨off,ft⟩:=p
      dsimp only
      unfold tyK
      obtain⟨ty,sz,_,_,_⟩:=Γ ft
      cases ty<;>first | exact .no | exact .ret _
  case call c=>
    obtain⟨callee,args,ts⟩:=c
    obtain⟨args⟩:=args
    obtain⟨ts⟩:=ts
    cases callee with
    | value f=>cases h
    | invoke _ _=>cases h
    | builtin b=>
      have two:∀ F:IntKind→Int→Int→Value,Lin ⟨env,loc,H,O⟩ fun K=>match (generalizing:=false) args with
          | [x,y]=>evK env x fun e=>e.valK fun x=>evK env y fun e=>e.valK fun y=>match (generalizing:=false) x with
            | .int k a=>match (generalizing:=false) y with
              | .int _ b=>K ⟨env,loc,H,O⟩ (.v (F k a b))
              | _=>False
            | _=>False
          | _=>False:=by
        intro F
        match args with
        | []=>exact .no
        | [_]=>exact .no
        | [x,y]=>
          refine .bind (ev _) fun e=>.bind (val _) fun x=>.bind (ev _) fun e=>.bind (val _) fun y=>?_
          cases x<;>try exact .no
          cases y<;>first | exact .no | exact .v _
        | _::_::_::_=>exact .no
      cases b<;>first | (cases h;done) | exact .no | skip
      case len=>
        match args,ts with
        | [x],[t]=>
          refine Lin.ty fun ty _ _ _ _=>.bind (ev _) fun e=>.bind (val _) fun v=>?_
          cases ty<;>try exact .no
          · cases v<;>first | exact .no | exact .v _
          · cases v<;>first | exact .no | exact .v _
          · exact .v _
        | [],_=>exact .no
        | _::_::_,_=>exact .no
        | [_],[]=>exact .no
        | [_],_::_::_=>exact .no
      case cap=>
        match args,ts with
        | [x],[t]=>
          refine Lin.ty fun ty _ _ _ _=>.bind (ev _) fun e=>.bind (val _) fun v=>?_
          cases ty<;>try exact .no
          cases v<;>first | exact .no | exact .v _
        | [],_=>exact .no
        | _::_::_,_=>exact .no
        | [_],[]=>exact .no
        | [_],_::_::_=>exact .no
      case min=>exact two _
      case max=>exact two _
end
end Go.Proofs.YtgbhgfdgifkdhaaGreat.X

namespace Go.Proofs.YtgbhgfdgifkdhaaGreat.X
open Go PH
inductive Bef (ops : List Oper) (i:Nat):Nat→Prop
  | dir {j:Nat} {o:Oper} {e:Edge}:ops[j]?=some o→e∈o.after.toList→Region.binds .any e=true→e.on=i→Bef ops i j
  | far {j:Nat} {o:Oper} {e:Edge}:ops[j]?=some o→e∈o.after.toList→Region.binds .any e=true→Bef ops i e.on→Bef ops i j
def DC (ops : List Oper) (listed:Array Bool):Prop:=∀ j,listed.getD j false=true→∀ o,ops[j]?=some o→∀ e∈o.after.toList,Region.binds .any e=true→listed.getD e.on false=true
def Rdy (ops : List Oper) (listed:Array Bool) (j:Nat):Prop:=∀ o,ops[j]?=some o→∀ e∈o.after.toList,Region.binds .any e=true→listed.getD e.on false=true
theorem Bef.listed {ops : List Oper} {listed:Array Bool} (hd:DC ops listed) {i j:Nat} (h:Bef ops i j):Rdy ops listed j→listed.getD i false=true:=by
  induction h with
  | dir ho he hb hi=>intro hr;rw[← hi];exact hr _ ho _ he hb
  | far ho he hb _ ih=>intro hr;exact ih fun o' ho' e' he' hb'=>hd _ (hr _ ho _ he hb) o' ho' e' he' hb'
def maskOf (acc : List Nat) (o:Oper):Nat:=o.after.toList.foldl (fun m e=>bif Region.binds .any e then m ||| (1 <<< e.on) ||| acc.getD e.on 0 else m) 0
def maskTab : List Oper→List Nat→List Nat
  | [],acc=>acc
  | o::l,acc=>maskTab l (acc++[maskOf acc o])
theorem maskOf_sound {ops : List Oper} {acc:List Nat} (ha:∀ k i,(acc.getD k 0).testBit i=true→Bef ops i k) {j:Nat} {o:Oper} (ho:ops[j]?=some o) {i:Nat} (h:(maskOf acc o).testBit i=true):Bef ops i j:=by
  unfold maskOf at h
  have key:∀ (l:List Edge) (m:Nat),(∀ e∈l,e∈o.after.toList)→(m.testBit i=true→Bef ops i j) →
      (l.foldl (fun m e=>bif Region.binds .any e then m ||| (1 <<< e.on) ||| acc.getD e.on 0 else m) m).testBit i=true→Bef ops i j:=by
    intro l
    induction l with
    | nil=>intro m _ hm h;exact hm h
    | cons e l ih=>
      intro m hl hm h
      refine ih _ (fun e' he'=>hl e' (by simp[he'])) ?_ h
      cases hb:Region.binds .any e with
      | false=>simpa[hb] using hm
      | true=>
        intro h
        dsimp only at h
        rw[hb,cond_true,Nat.testBit_or,Nat.testBit_or,Bool.or_eq_true,Bool.or_eq_true] at h
        rcases h with (h | h) | h
        · exact hm h
        · rw[Nat.one_shiftLeft,Nat.testBit_two_pow] at h
          exact .dir ho (hl e (by simp)) hb (by simpa using h)
        · exact .far ho (hl e (by simp)) hb (ha _ _ h)
  exact key _ 0 (fun _ h=>h) (by simp) h
theorem maskTab_sound {ops : List Oper}:∀ (l pre:List Oper) (acc:List Nat),ops=pre++l→acc.length=pre.length→(∀ k i,(acc.getD k 0).testBit i=true→Bef ops i k) →
    ∀ k i,((maskTab l acc).getD k 0).testBit i=true→Bef ops i k
  | [],pre,acc,_,_,ha=>ha
  | o::l,pre,acc,hp,hl,ha=>by
    refine maskTab_sound l (pre++[o]) (acc++[maskOf acc o]) (by simp[hp]) (by simp[hl]) ?_
    intro k i h
    rcases Nat.lt_trichotomy k acc.length with hk | hk | hk
    · have:(acc++[maskOf acc o]).getD k 0=acc.getD k 0:=by simp[List.getD_eq_getElem?_getD,List.getElem?_append_left hk]
      rw[this] at h
      exact ha k i h
    · have:(acc++[maskOf acc o]).getD k 0=maskOf acc o:=by subst hk;simp[List.getD_eq_getElem?_getD]
      rw[this] at h
      exact maskOf_sound ha (o:=o) (by rw[hp,hk,hl];simp) h
    · have:(acc++[maskOf acc o]).getD k 0=0:=by simp[List.getD_eq_getElem?_getD];rw[List.getElem?_eq_none (by simp;omega)];rfl
      rw[this] at h
      simp at h
def dstIn (d : Option Tmp) (l:List Tmp):Bool:=match d with
  | none=>false
  | some d=>l.contains d
def isFree (o : Op):Bool:=match Op.kd o with
  | .free=>true
  | _=>false
def isAlc (o : Op):Bool:=match Op.kd o with
  | .alc=>true
  | _=>false
theorem isAlc_iff {o : Op}:isAlc o=true ↔ Op.kd o=.alc:=by unfold isAlc;cases Op.kd o<;>simp
def isLight (o : Op):Bool:=match Op.kd o with
  | .light=>true
  | _=>false
def Cls.isLock : Cls→Bool
  | .lock=>true
  | _=>false
def Cls.isLate : Cls→Bool
  | .late=>true
  | _=>false
def Cls.isPendO : Cls→Bool
  | .pendO=>true
  | _=>false
def Cls.isPendH : Cls→Bool
  | .pendH=>true
  | _=>false
def relB (ops : List Oper) (bef:Nat→Nat→Bool) (x y:Nat × Cls):Bool:=
  match ops[x.1]?,ops[y.1]? with
  | some o,some p=>
    !(x.1 == y.1) &&
    ((!(x.2.isLock || x.2.isLate) || y.2.isLate) || bef x.1 y.1) &&
    (!(dstIn o.dst (p.looksAt ⟨ops⟩)) || bef x.1 y.1) &&
    (!(dstIn p.dst (o.looksAt ⟨ops⟩)) || (y.2.isLock && bef x.1 y.1)) &&
    (o.dst.isNone || !(o.dst == p.dst)) &&
    (!(y.2.isLock && isFree p.op) || (x.2.isPendH || bef x.1 y.1)) &&
    (!(x.2.isPendO && y.2.isLock) || (isAlc p.op || bef x.1 y.1)) &&
    o.after.toList.all (fun e=>!Region.binds .any e || !(e.on == y.1))
  | _,_=>false
def unB (Γ : TypeId→TI) (ops:List Oper) (x:Nat × Cls):Bool:=
  match ops[x.1]? with
  | some o=>
    (x.2.isLock || !(dstIn o.dst (o.looksAt ⟨ops⟩))) && o.after.toList.all (fun e=>!Region.binds .any e || (!(e.on == x.1) && Nat.blt e.on ops.length)) &&
    (match o.op with
    | .defer _=>false
    | .select _ _=>false
    | _=>true) &&
    match x.2 with
    | .late=>match o with
      | ⟨some _,.alloc t,_,_,_,none⟩=>!(Γ t).ty.isOther
      | _=>false
    | .lock=>true
    | _=>isLight o.op
  | none=>false
def pairsB (R : Nat × Cls→Nat × Cls→Bool):List (Nat × Cls)→Bool
  | []=>true
  | x::l=>l.all (R x) && pairsB R l
def okDraw (Γ : TypeId→TI) (ops:List Oper) (ord:List (Nat × Cls)):Bool:=
  pairsB (relB ops fun i j=>((maskTab ops []).getD j 0).testBit i) ord && ord.all (unB Γ ops) && (List.range ops.length).all fun k=>ord.any fun x=>x.1 == k
structure RelP (ops : List Oper) (x y:Nat × Cls):Prop where
  ne:x.1 ≠ y.1
  seq:(x.2=.lock∨x.2=.late)→y.2 ≠ .late→Bef ops x.1 y.1
  raw:∀ o p d,ops[x.1]?=some o→ops[y.1]?=some p→o.dst=some d→d∈p.looksAt ⟨ops⟩→Bef ops x.1 y.1
  war:∀ o p d,ops[x.1]?=some o→ops[y.1]?=some p→p.dst=some d→d∈o.looksAt ⟨ops⟩→y.2=.lock∧Bef ops x.1 y.1
  waw:∀ o p d,ops[x.1]?=some o→ops[y.1]?=some p→o.dst=some d→p.dst ≠ some d
  free:∀ p,ops[y.1]?=some p→y.2=.lock→Op.kd p.op=.free→x.2 ≠ .pendH→Bef ops x.1 y.1
  pendO:∀ p,ops[y.1]?=some p→x.2=.pendO→y.2=.lock→Op.kd p.op ≠ .alc→Bef ops x.1 y.1
  back:∀ o,ops[x.1]?=some o→∀ e∈o.after.toList,Region.binds .any e=true→e.on ≠ y.1
structure UnP (Γ : TypeId→TI) (ops:List Oper) (x:Nat × Cls):Prop where
  get:∃ o,ops[x.1]?=some o∧(∀ c,o.op ≠ .defer c)∧(∀ c b,o.op ≠ .select c b)∧(x.2 ≠ .lock→∀ d,o.dst=some d→d ∉ o.looksAt ⟨ops⟩) ∧
    (∀ e∈o.after.toList,Region.binds .any e=true→e.on ≠ x.1∧e.on < ops.length) ∧
    (x.2=.late→∃ d t ty ps af,o=⟨some d,.alloc t,ty,ps,af,none⟩∧(Γ t).ty.isOther=false) ∧
    ((x.2=.pend∨x.2=.pendO∨x.2=.pendH)→Op.kd o.op=.light)
structure OkD (Γ : TypeId→TI) (ops:List Oper) (ord:List (Nat × Cls)):Prop where
  pair:ord.Pairwise (RelP ops)
  un:∀ x∈ord,UnP Γ ops x
  cover:∀ k,k < ops.length→∃ c,(k,c)∈ord
theorem dstIn_iff {d : Option Tmp} {l:List Tmp}:dstIn d l=true ↔ ∃ t,d=some t∧t∈l:=by
  cases d<;>simp[dstIn]
theorem Cls.isLock_iff {c : Cls}:c.isLock=true ↔ c=.lock:=by cases c<;>simp[Cls.isLock]
theorem Cls.isLate_iff {c : Cls}:c.isLate=true ↔ c=.late:=by cases c<;>simp[Cls.isLate]
theorem Cls.isPendO_iff {c : Cls}:c.isPendO=true ↔ c=.pendO:=by cases c<;>simp[Cls.isPendO]
theorem Cls.isPendH_iff {c : Cls}:c.isPendH=true ↔ c=.pendH:=by cases c<;>simp[Cls.isPendH]
theorem isFree_iff {o : Op}:isFree o=true ↔ Op.kd o=.free:=by unfold isFree;cases Op.kd o<;>simp
theorem isLight_iff {o : Op}:isLight o=true ↔ Op.kd o=.light:=by unfold isLight;cases Op.kd o<;>simp
theorem relB_ok {ops : List Oper} {bef:Nat→Nat→Bool} (hb:∀ i j,bef i j=true→Bef ops i j) {x y:Nat × Cls} (h:relB ops bef x y=true):RelP ops x y:=by
  unfold relB at h
  cases ho:ops[x.1]? with
  | none=>rw[ho] at h;cases h
  | some o=>
  cases hp:ops[y.1]? with
  | none=>rw[ho,hp] at h;cases h
  | some p=>
  rw[ho,hp] at h
  simp only[Bool.and_eq_true,Bool.or_eq_true,Bool.not_eq_true',Bool.or_eq_false_iff,Bool.and_eq_false_iff] at h
  obtain⟨⟨⟨⟨⟨⟨⟨h1,h2⟩,h3⟩,h4⟩,h5⟩,h6⟩,h7⟩,h8⟩:=h
  have tf:∀ {b:Bool},b=true→b=false→False:=fun a b=>by rw[a] at b;cases b
  refine⟨by simpa using h1,?_,?_,?_,?_,?_,?_,?_⟩
  · intro hx hy
    rcases h2 with (⟨h2,h2'⟩ | h2) | h2
    · rcases hx with hx | hx
      · exact (tf (Cls.isLock_iff.2 hx) h2).elim
      · exact (tf (Cls.isLate_iff.2 hx) h2').elim
    · exact absurd (Cls.isLate_iff.1 h2) hy
    · exact hb _ _ h2
  · intro o' p' d ho' hp' hd hl
    rw[ho] at ho';cases ho';rw[hp] at hp';cases hp'
    rcases h3 with h3 | h3
    · exact (tf (dstIn_iff.2 ⟨d,hd,hl⟩) h3).elim
    · exact hb _ _ h3
  · intro o' p' d ho' hp' hd hl
    rw[ho] at ho';cases ho';rw[hp] at hp';cases hp'
    rcases h4 with h4 | ⟨h4,h4'⟩
    · exact (tf (dstIn_iff.2 ⟨d,hd,hl⟩) h4).elim
    · exact⟨Cls.isLock_iff.1 h4,hb _ _ h4'⟩
  · intro o' p' d ho' hp' hd hd'
    rw[ho] at ho';cases ho';rw[hp] at hp';cases hp'
    rcases h5 with h5 | h5
    · rw[hd] at h5;cases h5
    · rw[hd,hd'] at h5;simp at h5
  · intro p' hp' hy hk hH
    rw[hp] at hp';cases hp'
    rcases h6 with (h6 | h6) | h6 | h6
    · exact (tf (Cls.isLock_iff.2 hy) h6).elim
    · exact (tf (isFree_iff.2 hk) h6).elim
    · exact absurd (Cls.isPendH_iff.1 h6) hH
    · exact hb _ _ h6
  · intro p' hp' hx hy hk
    rw[hp] at hp';cases hp'
    rcases h7 with (h7 | h7) | (h7 | h7)
    · exact (tf (Cls.isPendO_iff.2 hx) h7).elim
    · exact (tf (Cls.isLock_iff.2 hy) h7).elim
    · exact absurd (isAlc_iff.1 h7) hk
    · exact hb _ _ h7
  · intro o' ho' e he hbd hon
    rw[ho] at ho';cases ho'
    have:=List.all_eq_true.1 h8 e he
    rw[hbd,hon] at this
    simp at this
theorem unB_ok {Γ : TypeId→TI} {ops:List Oper} {x:Nat × Cls} (h:unB Γ ops x=true):UnP Γ ops x:=by
  unfold unB at h
  cases ho:ops[x.1]? with
  | none=>rw[ho] at h;cases h
  | some o=>
  rw[ho] at h
  simp only[Bool.and_eq_true,Bool.or_eq_true,Bool.not_eq_true'] at h
  obtain⟨⟨⟨h1,h2⟩,h3⟩,h4⟩:=h
  refine⟨o,ho,?_,?_,?_,?_,?_,?_⟩
  · intro c hc;rw[hc] at h3;cases h3
  · intro c b hc;rw[hc] at h3;cases h3
  · intro hx d hd hl
    rcases h1 with h1 | h1
    · exact hx (Cls.isLock_iff.1 h1)
    · rw[dstIn_iff.2 ⟨d,hd,hl⟩] at h1;cases h1
  · intro e he hb
    have:=List.all_eq_true.1 h2 e he
    simp[hb] at this
    exact this
  · intro hx
    rw[hx] at h4
    dsimp only at h4
    split at h4
    · rename_i d t ty ps af
      exact⟨d,t,ty,ps,af,rfl,by simpa using h4⟩
    · cases h4
  · intro hx
    rcases hx with hx | hx | hx<;>(rw[hx] at h4;exact isLight_iff.1 h4)
theorem okDraw_ok {Γ : TypeId→TI} {ops:List Oper} {ord:List (Nat × Cls)} (h:okDraw Γ ops ord=true):OkD Γ ops ord:=by
  unfold okDraw at h
  simp only[Bool.and_eq_true] at h
  obtain⟨⟨h1,h2⟩,h3⟩:=h
  have hb:∀ i j,((maskTab ops []).getD j 0).testBit i=true→Bef ops i j:=fun i j h=>maskTab_sound ops [] [] rfl rfl (by simp) j i h
  refine⟨?_,fun x hx=>unB_ok (List.all_eq_true.1 h2 x hx),fun k hk=>?_⟩
  · clear h2 h3
    induction ord with
    | nil=>exact .nil
    | cons x l ih=>
      unfold pairsB at h1
      rw[Bool.and_eq_true] at h1
      exact .cons (fun y hy=>relB_ok hb (List.all_eq_true.1 h1.1 y hy)) (ih h1.2)
  · have:=List.all_eq_true.1 h3 k (List.mem_range.2 hk)
    obtain⟨x,hx,he⟩:=List.any_eq_true.1 this
    obtain⟨i,c⟩:=x
    simp at he
    subst he
    exact⟨c,hx⟩
end Go.Proofs.YtgbhgfdgifkdhaaGreat.X

namespace Go.Proofs.YtgbhgfdgifkdhaaGreat.X
open Go PH
section
variable {F : Fence} {n : Nat} {P : Program} {ops : List Oper} {Q : Exit → Act → World → Prop}
theorem eval_same {o : Oper} {a b:Act} (h:∀ t∈o.looksAt ⟨ops⟩,a.tmps[t]?=b.tmps[t]?):∀ x∈o.op.operands,a.eval x=b.eval x:=by
  intro x hx
  cases x with
  | tmp t=>
    have:=h t (List.mem_append_left _ (List.mem_filterMap.2 ⟨.tmp t,by simpa using hx,rfl⟩))
    simp[Act.eval,Array.getD_eq_getD_getElem?,this]
  | _=>rfl
theorem wanted_same {o : Oper} {a b:Act} (h:∀ t∈o.looksAt ⟨ops⟩,a.tmps[t]?=b.tmps[t]?):Region.wanted o (yielded ⟨ops⟩ a.tmps)=Region.wanted o (yielded ⟨ops⟩ b.tmps):=by
  unfold Region.wanted
  cases hg:o.guard with
  | none=>rfl
  | some gw=>
    obtain⟨g,want⟩:=gw
    have hy:yielded ⟨ops⟩ a.tmps g=yielded ⟨ops⟩ b.tmps g:=by
      unfold yielded
      cases ht:((⟨ops⟩:Array Oper)[g]?).bind (·.dst) with
      | none=>rfl
      | some t=>
        have:t∈o.looksAt ⟨ops⟩:=List.mem_append_right _ (by rw[hg];dsimp only;rw[ht];simp)
        simp only[Option.bind_some,h t this]
    simp only[hy]
theorem wpOpIn_same {i : Nat} {o:Oper} (ho:ops[i]?=some o) (hd:∀ c,o.op ≠ .defer c) (hs:∀ c b,o.op ≠ .select c b) {a b:Act} (hab:∀ t∈o.looksAt ⟨ops⟩,a.tmps[t]?=b.tmps[t]?)
    {K K':Act→World→Prop} {Q':Exit→Act→World→Prop} (hQ:∀ c w,Q' (.panic c) b w→Q (.panic c) a w) (hL:LetsOut Q'→LetsOut Q) (hK:∀ v w',K' (b.put o.dst v) w'→K (a.put o.dst v) w')
    (hD:∀ d w',¬ K' ({ b with defers:=d::b.defers }.put o.dst undef) w') {w:World}
    (h:wpOpIn F n P ⟨ops⟩ Q' i K' b w):wpOpIn F n P ⟨ops⟩ Q i K a w:=by
  have hA:(⟨ops⟩:Array Oper)[i]?=some o:=by simpa using ho
  have hev:=eval_same (ops:=ops) hab
  have hab':o.about P w a.eval=o.about P w b.eval:=about_congr o w hev
  unfold wpOpIn at *
  simp only[hA] at *
  rw[wanted_same hab]
  split
  · rename_i hw
    simp only[hw,if_true] at h
    unfold Oper.wpIn at *
    rw[hab']
    refine⟨h.1,?_⟩
    have h:=h.2
    rw[Oper.semAt_eq _ _ _ hd] at h ⊢
    rw[execOp_congr o hs hev]
    generalize (execOp b.eval o).run P w=r at *
    cases r with
    | ok x w'=>
      cases x<;>simp only[Oper.uponIn] at h ⊢
      case value u=>exact hK _ _ h
      case skip=>exact hK _ _ h
      case defer d=>exact (hD _ _ h).elim
      case enter f args=>exact⟨h.1,CallsIn.mono h.2 fun e w'' he=>by cases e<;>first | exact hK _ _ he | exact hQ _ _ he | exact hL he⟩
      case row row args=>exact⟨h.1,RowsIn.mono h.2 fun _ _ he=>hK _ _ he⟩
      case round=>exact⟨h.1,RoundIn.mono h.2 fun e w'' he=>by cases e<;>first | exact hK _ _ he | exact hQ _ _ he | exact hL he⟩
    | halt x w'=>cases x<;>simp only[Oper.uponIn] at h ⊢<;>exact hQ _ _ h
  · rename_i hw
    simp only[hw] at h
    rw[hab']
    exact⟨h.1,hK _ _ h.2⟩
end
theorem put_defers_ne {a b : Act} {d:Deferred} {dst dst':Option Tmp} {v v':Value} (h:a.defers=b.defers):({ a with defers:=d::a.defers }:Act).put dst v ≠ b.put dst' v':=by
  intro e
  have:=congrArg Act.defers e
  have h1:∀ (a:Act) (d:Option Tmp) v,(a.put d v).defers=a.defers:=fun a d v=>by cases d<;>rfl
  rw[h1,h1,← h] at this
  have:=congrArg List.length this
  simp at this
def Kp (c : Cls) (s:S) (w w':World):Prop:=∀ n,(s.H n ≠ none∨(c ≠ .pendH∧∃ (i:Nat) (b:B),s.loc[i]?=some (some b)∧b.n=n)∨(c=.pendO∧s.O n ≠ none))→w'.heap[n]?=w.heap[n]?
structure Pd (P : Program) (r:Option Nat) (ops:List Oper) (i:Nat) (c:Cls) (s:S) (a0:Act) (w:World):Prop where
  cls:c=.pend∨c=.pendO∨c=.pendH
  ex:∃ o a1 v,ops[i]?=some o∧a1.tmps.size=a0.tmps.size∧(∀ d,o.dst=some d→a0.tmps[d]?=some v)∧(∀ t∈o.looksAt ⟨ops⟩,a1.tmps[t]?=a0.tmps[t]?) ∧
    ∀ w',Kp c s w w'→wpOpIn (wide r) 0 P ⟨ops⟩ (fun _ _ _=>False) i (fun a₂ w₂=>a₂=a1.put o.dst v∧w₂=w') a1 w'
def Fresh (φ : Fr) (s:S) (b:Nat):Prop:=s.H b=none∧s.O b=none∧φ.w.heap.size≤b∧∀ (i:Nat) (c:B),s.loc[i]?=some (some c)→c.n ≠ b
structure Lt (Γ : TypeId→TI) (φ:Fr) (ops:List Oper) (i:Nat) (s:S) (a:Act) (w:World) (b:Nat):Prop where
  ex:∃ o d t,ops[i]?=some o∧o.dst=some d∧o.op=.alloc t∧o.guard=none∧a.tmps[d]?=some (.pointer (some ⟨b,0,none⟩))∧w.heap[b]?=some (.cells ⟨(Γ t).zero⟩ t (0,0))
  fresh:Fresh φ s b
def In1 (listed : Array Bool) (i:Nat):Prop:=listed.getD i false=true
structure Sim (Γ : TypeId→TI) (P:Program) (r:Option Nat) (φ:Fr) (ops:List Oper) (done rest:List (Nat × Cls)) (s:S) (listed:Array Bool) (a0 a:Act) (w:World):Prop where
  real:Real φ s a0 w
  defers:a.defers=a0.defers
  sizes:a.tmps.size=a0.tmps.size
  lsize:listed.size=ops.length
  dc:DC ops listed
  early:∀ i c,(i,c)∈rest→In1 listed i→c=.late
  same:∀ t,(∀ i c o,(i,c)∈done→¬ In1 listed i→ops[i]?=some o→o.dst ≠ some t)→(∀ i o,(i,.late)∈rest→In1 listed i→ops[i]?=some o→o.dst ≠ some t)→a.tmps[t]?=a0.tmps[t]?
  pend:∀ i c,(i,c)∈done→¬ In1 listed i→Pd P r ops i c s a0 w
  late:∀ i,(i,.late)∈rest→In1 listed i→∃ b,Lt Γ φ ops i s a w b
  fit:∀ (i:Nat) (o:Oper) (d:Nat),ops[i]?=some o→o.dst=some d→d < a.tmps.size
  apart:∀ i j b,(i,.late)∈rest→In1 listed i→(j,.late)∈rest→In1 listed j→Lt Γ φ ops i s a w b→Lt Γ φ ops j s a w b→i=j
theorem Real.less {φ : Fr} {s:S} {a:Act} {w:World} (hR:Real φ s a w):Real φ ⟨s.env,s.loc,s.H,emp⟩ a w:=by
  refine⟨hR.size,hR.env,fun i b hb=>?_,hR.apart,hR.inH,(fun n o h=>by cases h),.emp _,hR.sub,fun n hn hm=>⟨(hR.old n hn hm).1,rfl⟩,hR.frm,hR.uniq,fun d hd=>?_⟩
  · obtain⟨h1,h2,h3,h4⟩:=hR.loc i b hb
    exact⟨h1,rfl,h3,h4⟩
  · obtain⟨q,q1,q2,q3,q4,q5,q6⟩:=hR.marks d hd
    exact⟨q,q1,q2,q3,q4,rfl,q6⟩
theorem pub_get {loc : List (Option B)} {i:Nat} {b:B} (h:(loc.map pubOf)[i]?=some (some b)):loc[i]?=some (some b)∧b.pub=true:=by
  rw[List.getElem?_map] at h
  cases e:loc[i]? with
  | none=>rw[e] at h;cases h
  | some x=>
    rw[e] at h
    cases x with
    | none=>cases h
    | some c=>
      obtain⟨n,cs,t,pub⟩:=c
      cases pub with
      | false=>cases h
      | true=>cases h;exact⟨rfl,rfl⟩
theorem Real.pubs {φ : Fr} {s:S} {a:Act} {w:World} (hR:Real φ s a w):Real φ ⟨s.env,s.loc.map pubOf,s.H,emp⟩ a w:=by
  have hR:=hR.less
  refine⟨hR.size,fun t e he=>(hR.env t e he).mono fun i x hx=>?_,fun i b hb=>hR.loc i b (pub_get hb).1,fun i j b c hb hc=>hR.apart i j b c (pub_get hb).1 (pub_get hc).1,hR.inH,hR.inO,hR.dis,hR.sub,hR.old,hR.frm,hR.uniq,fun d hd=>?_⟩
  · dsimp only at hx ⊢
    rw[List.getElem?_map,hx]
    match x with
    | none=>exact .inl rfl
    | some ⟨n,cs,t,true⟩=>exact .inr ⟨_,_,rfl,rfl,rfl⟩
    | some ⟨n,cs,t,false⟩=>exact .inl rfl
  · obtain⟨q,q1,q2,q3,q4,q5,q6⟩:=hR.marks d hd
    exact⟨q,q1,q2,q3,q4,q5,fun i b hb=>q6 i b (pub_get hb).1⟩
theorem Real.anew {φ : Fr} {s:S} {a:Act} {w w':World} (hR:Real φ s a w) (hk:∀ n,(s.H n ≠ none∨(∃ (i:Nat) (b:B),s.loc[i]?=some (some b)∧b.n=n)∨s.O n ≠ none)→w'.heap[n]?=w.heap[n]?) :
    Real ⟨{ w' with heap:=#[] },emp,emp,φ.r⟩ s ⟨a.tmps,[]⟩ w':=by
  refine⟨hR.size,hR.env,fun i b hb=>?_,hR.apart,?_,?_,hR.dis,(fun n o h=>by cases h),fun n hn=>absurd hn (by simp),⟨rfl,rfl,rfl,by simp,fun n hn=>absurd hn (by simp)⟩,List.Pairwise.nil,(by simp)⟩
  · obtain⟨h1,h2,h3,h4⟩:=hR.loc i b hb
    exact⟨(hk b.n (.inr (.inl ⟨i,b,hb,rfl⟩))).trans h1,h2,h3,fun h=>⟨(h4 h).1,.inl (by simp)⟩⟩
  · intro n o hn
    exact (hk n (.inl (by rw[hn];simp))).trans (hR.inH n o hn)
  · intro n o hn
    exact (hk n (.inr (.inr (by rw[hn];simp)))).trans (hR.inO n o hn)
theorem put_get {a : Act} {d:Option Tmp} {v:Value} {t:Nat} (h:d ≠ some t):(a.put d v).tmps[t]?=a.tmps[t]?:=by
  cases d with
  | none=>rfl
  | some d=>simp only[Act.put];rw[Array.getElem?_setIfInBounds_ne (fun e=>h (by rw[e]))]
theorem put_self {a : Act} {d:Nat} {v:Value} (h:d < a.tmps.size):(a.put (some d) v).tmps[d]?=some v:=by
  simp only[Act.put];rw[Array.getElem?_setIfInBounds_self_of_lt h]
theorem put_size {a : Act} {d:Option Tmp} {v:Value}:(a.put d v).tmps.size=a.tmps.size:=by
  cases d<;>simp[Act.put]
theorem put_defs {a : Act} {d:Option Tmp} {v:Value}:(a.put d v).defers=a.defers:=by
  cases d<;>rfl
end Go.Proofs.YtgbhgfdgifkdhaaGreat.X

namespace Go.Proofs.YtgbhgfdgifkdhaaGreat.X
open Go PH
theorem pw_cases {α : Type} {R:α→α→Prop}:∀ {l:List α},l.Pairwise R→∀ {x y:α},x∈l→y∈l→x=y∨R x y∨R y x
  | _::_,.cons h hl,x,y,hx,hy=>by
    rcases List.mem_cons.1 hx with e1 | hx'<;>rcases List.mem_cons.1 hy with e2 | hy'
    · exact .inl (e1.trans e2.symm)
    · exact .inr (.inl (e1 ▸ h _ hy'))
    · exact .inr (.inr (e2 ▸ h _ hx'))
    · exact pw_cases hl hx' hy'
theorem getD_set {l : Array Bool} {i j:Nat} (hi:i < l.size):(l.setIfInBounds i true).getD j false=true ↔ (j=i∨l.getD j false=true):=by
  by_cases e:i=j
  · subst e;simp[Array.getD_eq_getD_getElem?,hi]
  · rw[getD_set_ne false e]
    constructor
    · exact .inr
    · rintro (h | h)
      · exact absurd h.symm e
      · exact h
section
variable {Γ : TypeId → TI} {P : Program} {φ : Fr} {r : Option Nat} {pol : Tmp → Pol} {ops : List Oper} {done rest : List (Nat × Cls)} {s : S} {listed : Array Bool} {a0 a : Act} {w : World} {K : S → Prop}
theorem OkD.dr (h : OkD Γ ops (done++rest)) {x y:Nat × Cls} (hx:x∈done) (hy:y∈rest):RelP ops x y:=(List.pairwise_append.1 h.pair).2.2 x hx y hy
theorem OkD.hd {x : Nat × Cls} (h:OkD Γ ops (done++x::rest)) {y:Nat × Cls} (hy:y∈rest):RelP ops x y:=
  (List.pairwise_cons.1 (List.pairwise_append.1 h.pair).2.1).1 y hy
theorem OkD.shift {x : Nat × Cls} (h:OkD Γ ops (done++x::rest)):OkD Γ ops ((done++[x])++rest):=by simpa using h
theorem Holds.det {loc : List (Option B)} {e:En} {u v:Value} (hne:e ≠ .any) (h:Holds loc e (some u)) (k:Holds loc e (some v)):u=v:=by
  cases e with
  | any=>exact absurd rfl hne
  | v x=>exact Option.some.inj (h.trans k.symm)
  | l x i=>exact Option.some.inj (h.1.trans k.1.symm)
theorem wpOpIn_yes {F : Fence} {n:Nat} {Q:Exit→Act→World→Prop} {i:Nat} {o:Oper} {K:Act→World→Prop} (ho:ops[i]?=some o) (hw:Region.wanted o (yielded ⟨ops⟩ a.tmps)=true) (h:o.wpIn F n P a w K Q):wpOpIn F n P ⟨ops⟩ Q i K a w:=by
  unfold wpOpIn
  rw[show (⟨ops⟩:Array Oper)[i]?=some o by simpa using ho]
  simp only[hw,if_true]
  exact h
theorem wpOpIn_no {Q : Exit→Act→World→Prop} {i:Nat} {o:Oper} {K:Act→World→Prop} (ho:ops[i]?=some o) (hw:Region.wanted o (yielded ⟨ops⟩ a.tmps)=false) (h:K (a.put o.dst undef) w):wpOpIn (wide r) 0 P ⟨ops⟩ Q i K a w:=by
  unfold wpOpIn
  rw[show (⟨ops⟩:Array Oper)[i]?=some o by simpa using ho]
  simp only[hw,Bool.false_eq_true,if_false]
  exact⟨fun _ _=>trivial,h⟩
theorem Pd.mono {i : Nat} {c:Cls} {s s':S} {a0 a0':Act} {w w':World} (h:Pd P r ops i c s a0 w) (hk:∀ w'',Kp c s' w' w''→Kp c s w w'') (hz:a0'.tmps.size=a0.tmps.size)
    (ht:∀ o,ops[i]?=some o→(∀ d,o.dst=some d→a0'.tmps[d]?=a0.tmps[d]?)∧∀ t∈o.looksAt ⟨ops⟩,a0'.tmps[t]?=a0.tmps[t]?):Pd P r ops i c s' a0' w':=by
  obtain⟨hc,o,a1,v,h1,hs,h2,h3,h4⟩:=h
  exact⟨hc,o,a1,v,h1,hs.trans hz.symm,fun d hd=>((ht o h1).1 d hd).trans (h2 d hd),fun t hl=>(h3 t hl).trans ((ht o h1).2 t hl).symm,fun w'' hw=>h4 w'' (hk w'' hw)⟩
theorem guardK_mono {ops : List Oper} {g:Option (Nat × Bool)} {env:List En} {A A' B:List En→Prop} (hA:∀ env,A env→A' env) (h:guardK ops g env A B):guardK ops g env A' B:=by
  cases g with
  | none=>exact hA _ h
  | some p=>
    obtain⟨j,want⟩:=p
    obtain⟨oj,hj,h⟩:=getK_iff.1 h
    refine getK_iff.2 ⟨oj,hj,?_⟩
    obtain⟨d,op,ty,ps,af,gd⟩:=oj
    cases d with
    | none=>exact h.elim
    | some d=>
      obtain⟨e,he,h⟩:=getK_iff.1 h
      refine getK_iff.2 ⟨e,he,?_⟩
      have key:∀ v,selK want env d v A B→selK want env d v A' B:=by
        intro v h
        cases v<;>try exact h.elim
        case tuple xs=>exact h
        rename_i b
        cases b<;>cases want<;>first
          | exact h
          | (obtain⟨h1,h2⟩:=setK_iff.1 h;exact setK_iff.2 ⟨h1,hA _ h2⟩)
      cases e with
      | any=>exact h.elim
      | v x=>exact key x h
      | l x i=>exact key x h
theorem adv_pend {i : Nat} {c:Cls} (hΓ:∀ t,TIOK P t (Γ t)) (hok:OkD Γ ops (done++(i,c)::rest)) (hS:Sim Γ P r φ ops done ((i,c)::rest) s listed a0 a w) (hc:c=.pend∨c=.pendO∨c=.pendH) (hi:¬ In1 listed i)
    (h:drawK Γ P pol ops ((i,c)::rest) s K):∃ s' a0',Sim Γ P r φ ops (done++[(i,c)]) rest s' listed a0' a w∧drawK Γ P pol ops rest s' K:=by
  obtain⟨env,loc,H,O⟩:=s
  obtain⟨o,ho,hdf,hsl,hself,hed,_,hlt⟩:=(hok.un (i,c) (by simp)).get
  have hlight:=hlt hc
  have hcl:c ≠ .lock:=by rcases hc with rfl | rfl | rfl<;>simp
  have hcL:c ≠ .late:=by rcases hc with rfl | rfl | rfl<;>simp
  obtain⟨d,op,ty,ps,af,g⟩:=o
  dsimp only at ho hdf hsl hself hlight
  have fin:∀ (env1:List En) (e:En) (v:Value),Real φ ⟨env1,loc,H,O⟩ a0 w→Holds loc e (some v) →
      (∀ w',Kp c ⟨env1,loc,H,O⟩ w w'→wpOpIn (wide r) 0 P ⟨ops⟩ (fun _ _ _=>False) i (fun a₂ w₂=>a₂=(⟨a0.tmps,[]⟩:Act).put d v∧w₂=w') ⟨a0.tmps,[]⟩ w') →
      (putK env1 d e fun env=>drawK Γ P pol ops rest ⟨env,loc,H,O⟩ K)→∃ s' a0',Sim Γ P r φ ops (done++[(i,c)]) rest s' listed a0' a w∧drawK Γ P pol ops rest s' K:=by
    intro env1 e v hR1 hh hrun hput
    obtain⟨env2,hk,hR2⟩:=hR1.put hh hput
    refine⟨⟨env2,loc,H,O⟩,a0.put d v,⟨hR2,hS.defers.trans put_defs.symm,hS.sizes.trans put_size.symm,hS.lsize,hS.dc,fun j cj hj=>hS.early j cj (by simp[hj]),?_,?_,?_,hS.fit,?_⟩,hk⟩
    · intro t h1 h2
      have hdt:d ≠ some t:=h1 i c _ (by simp) hi ho
      rw[put_get hdt]
      refine hS.same t (fun j cj oj hj=>h1 j cj oj (by simp[hj])) (fun j oj hj=>?_)
      rcases List.mem_cons.1 hj with e | hj
      · cases e;exact absurd rfl hcL
      · exact h2 j oj hj
    · intro j cj hj hjl
      rcases List.mem_append.1 hj with hj | hj
      · have hrel:=hok.dr hj (y:=(i,c)) (by simp)
        refine (hS.pend j cj hj hjl).mono (fun _ h=>h) put_size (fun oj hoj=>⟨fun d' hd'=>put_get fun e=>?_,fun t ht=>put_get fun e=>?_⟩)
        · exact hrel.waw oj _ d' hoj ho hd' e
        · exact hcl (hrel.war oj _ t hoj ho e ht).1
      · simp only[List.mem_singleton,Prod.mk.injEq] at hj
        obtain⟨rfl,rfl⟩:=hj
        refine⟨hc,_,⟨a0.tmps,[]⟩,v,ho,(put_size (a:=a0)).symm,?_,?_,hrun⟩
        · intro d' hd'
          dsimp only at hd'
          subst hd'
          obtain⟨hlt,_⟩:=setK_iff.1 hput
          exact put_self (by rw[hR1.size];exact hlt)
        · intro t ht
          exact (put_get (a:=a0) (v:=v) fun e=>hself hcl t e ht).symm
    · intro j hj hjl
      obtain⟨b,hb⟩:=hS.late j (by simp[hj]) hjl
      exact⟨b,hb.ex,hb.fresh⟩
    · exact fun j k b hj hjl hk hkl h1 h2=>hS.apart j k b (by simp[hj]) hjl (by simp[hk]) hkl ⟨h1.ex,h1.fresh⟩ ⟨h2.ex,h2.fresh⟩
  have run:∀ (L':List (Option B)) (O':PH) (C:S→En→Prop),(∀ env1 e,C ⟨env1,L',H,O'⟩ e→(∀ y,Holds L' e y→Holds loc e y)∧putK env1 d e fun env=>drawK Γ P pol ops rest ⟨env,loc,H,O⟩ K)→(c=.pendO∧L'=loc∧O'=O∨c=.pend∧L'=loc∧O'=emp∨c=.pendH∧L'=loc.map pubOf∧O'=emp)→(guardK ops g env
          (fun env=>opK Γ P (pol (d.getD 0)) op ⟨env,L',H,O'⟩ C)
          (fun env=>putK env d (.v undef) fun env=>drawK Γ P pol ops rest ⟨env,loc,H,O⟩ K))→∃ s' a0',Sim Γ P r φ ops (done++[(i,c)]) rest s' listed a0' a w∧drawK Γ P pol ops rest s' K:=by
    intro L' O' C hC hO' h
    rcases guardK_inv (o:=⟨d,op,ty,ps,af,g⟩) rfl hS.real h with⟨hw,env1,h,hR1⟩ | ⟨hw,env1,h,hR1⟩
    · have hRx:Real φ ⟨env1,L',H,O'⟩ a0 w:=by
        rcases hO' with⟨_,rfl,rfl⟩ | ⟨_,rfl,rfl⟩ | ⟨_,rfl,rfl⟩
        · exact hR1
        · exact hR1.less
        · exact hR1.pubs
      obtain⟨e,hne,hk,hr⟩:=light_lin ⟨env1,L',H,O'⟩ hlight _ h
      have h2:=hr (fun s' e'=>s'=⟨env1,L',H,O'⟩∧e'=e) ⟨rfl,rfl⟩
      have hval:Val P ⟨d,op,ty,ps,af,g⟩ a0 w fun _ _=>∃ v,Holds L' e (some v):=opK_light hlight hΓ hRx h2 (by
        rintro v w' s' e' ⟨rfl,rfl⟩ _ _ hh
        exact⟨v,hh⟩)
      obtain⟨_,_,_,v,hh⟩:=hval
      refine fin env1 e v hR1 ((hC _ _ hk).1 _ hh) (fun w' hkp=>wpOpIn_yes ho hw ?_) (hC _ _ hk).2
      have hRn:=hRx.anew (w':=w') (by
        rcases hO' with⟨hc',rfl,rfl⟩ | ⟨hc',rfl,rfl⟩ | ⟨hc',rfl,rfl⟩
        · intro n hn
          rcases hn with hn | hn | hn
          · exact hkp n (.inl hn)
          · exact hkp n (.inr (.inl ⟨by rw[hc'];simp,hn⟩))
          · exact hkp n (.inr (.inr ⟨hc',hn⟩))
        · intro n hn
          rcases hn with hn | hn | hn
          · exact hkp n (.inl hn)
          · exact hkp n (.inr (.inl ⟨by rw[hc'];simp,hn⟩))
          · exact absurd rfl hn
        · intro n hn
          rcases hn with hn | ⟨k,b,hb,rfl⟩ | hn
          · exact hkp n (.inl hn)
          · obtain⟨hb1,hb2⟩:=pub_get hb
            refine hkp b.n (.inl ?_)
            rw[(hR1.loc k b hb1).2.2.1 hb2]
            simp
          · exact absurd rfl hn)
      refine Val.wpIn (opK_light hlight hΓ hRn h2 ?_) hdf
      rintro v' w'' s' e' ⟨rfl,rfl⟩ ⟨_,rfl⟩ _ hh'
      rw[Holds.det hne hh' hh]
      exact⟨rfl,rfl⟩
    · exact fin env1 (.v undef) undef hR1 rfl (fun w' _=>wpOpIn_no ho hw ⟨rfl,rfl⟩) h
  unfold drawK at h
  obtain⟨o',ho',h⟩:=getK_iff.1 h
  rw[ho] at ho'
  cases ho'
  rcases hc with rfl | rfl | rfl
  · exact run loc emp _ (fun _ _ h=>⟨fun _ h=>h,h⟩) (.inr (.inl ⟨rfl,rfl,rfl⟩)) h
  · exact run loc O _ (fun _ _ h=>⟨fun _ h=>h,h⟩) (.inl ⟨rfl,rfl,rfl⟩) h
  · refine run (loc.map pubOf) emp _ (fun env1 e h=>?_) (.inr (.inr ⟨rfl,rfl,rfl⟩)) (guardK_mono (fun env h=>pubsK_inv h) h)
    cases e with
    | any=>exact⟨fun _ _=>trivial,h⟩
    | v x=>exact⟨fun _ h=>h,h⟩
    | l x k=>
      obtain⟨b,hb,h⟩:=getK_iff.1 h
      cases b with
      | none=>exact h.elim
      | some b=>
        refine⟨?_,h⟩
        rintro y ⟨hy,hat⟩
        rcases hat with hat | ⟨b',hb',hp⟩
        · rw[hb] at hat;cases hat
        · exact⟨hy,.inr ⟨b',(pub_get hb').1,hp⟩⟩
end
end Go.Proofs.YtgbhgfdgifkdhaaGreat.X

namespace Go.Proofs.YtgbhgfdgifkdhaaGreat.X
open Go PH
theorem Real.adopt {φ : Fr} {s:S} {a:Act} {w:World} (hR:Real φ s a w) {n:Nat} {cs:List Value} {t:TypeId} (hn:w.heap[n]?=some (.cells ⟨cs⟩ t (0,0))) (hf:Fresh φ s n) :
    Real φ ⟨s.env,s.loc++[some ⟨n,cs,t,false⟩],s.H,s.O⟩ a w:=by
  obtain⟨hH,hO,hφ,hloc⟩:=hf
  have key:∀ (i:Nat) (b:B),(s.loc++[some ⟨n,cs,t,false⟩])[i]?=some (some b)→(s.loc[i]?=some (some b)∨(i=s.loc.length∧b=⟨n,cs,t,false⟩)):=fun i b hb=>by
    rcases (getElem?_snoc _ _ _ _).1 hb with h | ⟨h1,h2⟩
    · exact .inl h
    · cases h2;exact .inr ⟨h1,rfl⟩
  refine⟨hR.size,fun t e he=>holds_snoc (hR.env t e he),?_,?_,hR.inH,hR.inO,hR.dis,hR.sub,hR.old,hR.frm,hR.uniq,?_⟩
  · intro i b hb
    rcases key i b hb with h | ⟨_,rfl⟩
    · exact hR.loc i b h
    · exact⟨hn,hO,(fun h=>by cases h),fun _=>⟨hH,.inl hφ⟩⟩
  · intro i j b c hb hc he
    rcases key i b hb with h | ⟨h1,rfl⟩<;>rcases key j c hc with k | ⟨k1,rfl⟩
    · exact hR.apart i j b c h k he
    · exact absurd he (hloc i b h)
    · exact absurd he.symm (hloc j c k)
    · omega
  · intro d hd
    obtain⟨q,q1,q2,q3,q4,q5,q6⟩:=hR.marks d hd
    refine⟨q,q1,q2,q3,q4,q5,fun i b hb=>?_⟩
    rcases key i b hb with h | ⟨_,rfl⟩
    · exact q6 i b h
    · intro e
      dsimp only at e
      rw[← e,hn] at q2
      cases q2
theorem Real.alloc_none {φ : Fr} {s:S} {a:Act} {w:World} (hR:Real φ s a w) (o:Obj):Real φ s a (w.alloc o):=
  ⟨hR.size,hR.env,fun i b hb=>⟨alloc_keeps o (hR.loc i b hb).1,(hR.loc i b hb).2⟩,hR.apart,hR.inH.alloc o,hR.inO.alloc o,hR.dis,hR.sub,hR.old,hR.frm.alloc o,hR.uniq,fun d hd=>(hR.marks d hd).alloc o⟩
section
variable {Γ : TypeId → TI} {P : Program} {φ : Fr} {r : Option Nat} {pol : Tmp → Pol} {ops : List Oper} {done rest : List (Nat × Cls)} {s : S} {listed : Array Bool} {a0 a : Act} {w : World} {K : S → Prop}
theorem adv_late {i : Nat} (hok:OkD Γ ops (done++(i,.late)::rest)) (hS:Sim Γ P r φ ops done ((i,.late)::rest) s listed a0 a w) (hi:In1 listed i)
    (h:drawK Γ P pol ops ((i,.late)::rest) s K):∃ s' a0',Sim Γ P r φ ops (done++[(i,.late)]) rest s' listed a0' a w∧drawK Γ P pol ops rest s' K:=by
  obtain⟨env,loc,H,O⟩:=s
  obtain⟨b,⟨o,d,t,ho,hd,hop,hg,ha,hw⟩,hf⟩:=hS.late i (by simp) hi
  have hbl:Lt Γ φ ops i ⟨env,loc,H,O⟩ a w b:=⟨⟨o,d,t,ho,hd,hop,hg,ha,hw⟩,hf⟩
  obtain⟨dst,op,ty,ps,af,g⟩:=o
  dsimp only at hd hop hg
  subst hd hop hg
  unfold drawK at h
  obtain⟨o',ho',h⟩:=getK_iff.1 h
  rw[ho] at ho'
  cases ho'
  replace h:=appK_iff.1 (lenK_iff.1 (tyK_inv h b))
  have hR1:=hS.real.adopt hw hf
  obtain⟨env2,hk,hR2⟩:=hR1.put (e:=.l (.pointer (some ⟨b,0,none⟩)) (0+loc.length)) (v:=.pointer (some ⟨b,0,none⟩)) ⟨rfl,.inr ⟨_,(getElem?_snoc _ _ _ _).2 (.inr ⟨by simp,rfl⟩),.inl ⟨0,rfl⟩⟩⟩ h
  have hlt:d < a0.tmps.size:=by
    obtain⟨hlt,_⟩:=setK_iff.1 h
    rw[hS.real.size];exact hlt
  refine⟨_,a0.put (some d) (.pointer (some ⟨b,0,none⟩)),⟨hR2,hS.defers.trans put_defs.symm,hS.sizes.trans put_size.symm,hS.lsize,hS.dc,fun j cj hj=>hS.early j cj (by simp[hj]),?_,?_,?_,hS.fit,?_⟩,hk⟩
  · intro t' h1 h2
    by_cases e:d=t'
    · subst e
      rw[put_self hlt,ha]
    · rw[put_get (fun h=>e (by simpa using h))]
      refine hS.same t' (fun j cj oj hj=>h1 j cj oj (by simp[hj])) (fun j oj hj hjl hoj=>?_)
      rcases List.mem_cons.1 hj with e' | hj
      · cases e'
        rw[ho] at hoj
        cases hoj
        intro e''
        exact e (by simpa using e'')
      · exact h2 j oj hj hjl hoj
  · intro j cj hj hjl
    rcases List.mem_append.1 hj with hj | hj
    · have hrel:=hok.dr hj (y:=(i,.late)) (by simp)
      refine (hS.pend j cj hj hjl).mono (fun w'' hk n hn=>hk n ?_) put_size (fun oj hoj=>⟨fun d' hd'=>put_get fun e=>?_,fun t ht=>put_get fun e=>?_⟩)
      · rcases hn with hn | ⟨hcn,i',b',hb',hn⟩ | hn
        · exact .inl hn
        · exact .inr (.inl ⟨hcn,i',b',(getElem?_snoc _ _ _ _).2 (.inl hb'),hn⟩)
        · exact .inr (.inr hn)
      · exact hrel.waw oj _ d' hoj ho hd' e
      · exact absurd (hrel.war oj _ t hoj ho e ht).1 (by simp)
    · simp only[List.mem_singleton,Prod.mk.injEq] at hj
      obtain⟨rfl,rfl⟩:=hj
      exact absurd hi hjl
  · intro j hj hjl
    obtain⟨c,hc⟩:=hS.late j (by simp[hj]) hjl
    refine⟨c,hc.ex,hc.fresh.1,hc.fresh.2.1,hc.fresh.2.2.1,fun i' b' hb'=>?_⟩
    rcases (getElem?_snoc _ _ _ _).1 hb' with hb' | ⟨_,hb'⟩
    · exact hc.fresh.2.2.2 i' b' hb'
    · cases hb'
      dsimp only
      intro e
      subst e
      exact (hok.hd hj).ne (hS.apart i j b (by simp) hi (by simp[hj]) hjl hbl hc)
  · intro j k b' hj hjl hk hkl h1 h2
    have un:∀ {q},Lt Γ φ ops q ⟨env2,loc++[some ⟨b,(Γ t).zero,t,false⟩],H,O⟩ a w b'→Lt Γ φ ops q ⟨env,loc,H,O⟩ a w b':=fun h=>
      ⟨h.ex,h.fresh.1,h.fresh.2.1,h.fresh.2.2.1,fun i' c' hc'=>h.fresh.2.2.2 i' c' ((getElem?_snoc _ _ _ _).2 (.inl hc'))⟩
    exact hS.apart j k b' (by simp[hj]) hjl (by simp[hk]) hkl (un h1) (un h2)
theorem dc_set (hs : listed.size=ops.length) (hd:DC ops listed) {i:Nat} (hi:i < ops.length) (hr:Rdy ops listed i):DC ops (listed.setIfInBounds i true):=by
  intro j hj o ho e he hb
  rw[getD_set (by omega)] at hj ⊢
  rcases hj with rfl | hj
  · exact .inr (hr o ho e he hb)
  · exact .inr (hd j hj o ho e he hb)
theorem Kp.grown {c : Cls} {w1 w2:World} (hR:Real φ s a0 w) (h1:∀ n,n < w.heap.size→w1.heap[n]?=w.heap[n]?) (h:Kp c s w1 w2):Kp c s w w2:=by
  intro n hn
  refine (h n hn).trans (h1 n ?_)
  rcases hn with hn | ⟨_,i,b,hb,rfl⟩ | ⟨_,hn⟩
  · obtain⟨o,ho⟩:=Option.ne_none_iff_exists'.1 hn
    exact hR.inH.lt ho
  · exact hR.loc_lt hb
  · obtain⟨o,ho⟩:=Option.ne_none_iff_exists'.1 hn
    exact hR.inO.lt ho
theorem start_late {i : Nat} {Kn:Act→World→Prop} {Q:Exit→Act→World→Prop} (hΓ:∀ t,TIOK P t (Γ t)) (hok:OkD Γ ops (done++rest)) (hS:Sim Γ P r φ ops done rest s listed a0 a w) (hi:¬ In1 listed i) (hm:(i,.late)∈rest) (hr:Rdy ops listed i)
    (hn:∀ a' w',Sim Γ P r φ ops done rest s (listed.setIfInBounds i true) a0 a' w'→Kn a' w'):wpOpIn (wide r) 0 P ⟨ops⟩ Q i Kn a w:=by
  obtain⟨o,ho,hdf,hsl,hself,hed,hlate,_⟩:=(hok.un (i,.late) (by simp[hm])).get
  obtain⟨d,t,ty,ps,af,rfl,hty⟩:=hlate rfl
  have hil:i < ops.length:=(List.getElem?_eq_some_iff.1 ho).1
  have hL:=fun j=>getD_set (l:=listed) (i:=i) (j:=j) (by rw[hS.lsize];exact hil)
  obtain⟨ti,hti,hsz,hb,z,hz,hzc⟩:=(tiok hΓ hty).2.info
  have ezc:z.cells=⟨(Γ t).zero⟩:=by rw[← hzc]
  refine wpOpIn_yes ho (by simp[Region.wanted]) (wpIn_value (fun c hc=>by cases hc) (v:=.pointer (some ⟨w.heap.size,0,none⟩)) (w':=w.alloc (.cells ⟨(Γ t).zero⟩ t)) ?_ (hn _ _ ?_))
  · simp[execOp,Instr.alloc,Sem.run_bind,run_zero hti hz,Result.andThen,run_newVar,ezc]
  have other:∀ j cj oj,(j,cj)∈done++rest→ops[j]?=some oj→j ≠ i→oj.dst ≠ some d:=by
    intro j cj oj hj hoj hne e
    rcases pw_cases hok.pair hj (y:=(i,.late)) (by simp[hm]) with h | h | h
    · cases h;exact hne rfl
    · exact h.waw oj _ d hoj ho e rfl
    · exact h.waw _ oj d ho hoj rfl e
  have notd:∀ j cj,(j,cj)∈done→j ≠ i:=fun j cj hj=>(hok.dr hj hm).ne
  have oldl:∀ j,(j,.late)∈rest→In1 listed j→∃ b,Lt Γ φ ops j s a w b:=hS.late
  have lift:∀ j b,(j,.late)∈rest→j ≠ i→Lt Γ φ ops j s a w b→Lt Γ φ ops j s (a.put (some d) (.pointer (some ⟨w.heap.size,0,none⟩))) (w.alloc (.cells ⟨(Γ t).zero⟩ t)) b:=by
    rintro j b hj hne ⟨⟨oj,dj,tj,h1,h2,h3,h4,h5,h6⟩,hf⟩
    exact⟨⟨oj,dj,tj,h1,h2,h3,h4,(put_get (fun e=>other j .late oj (by simp[hj]) h1 hne (by rw[h2];exact e.symm))).trans h5,alloc_keeps _ h6⟩,hf⟩
  have down:∀ j b,(j,.late)∈rest→In1 listed j→Lt Γ φ ops j s (a.put (some d) (.pointer (some ⟨w.heap.size,0,none⟩))) (w.alloc (.cells ⟨(Γ t).zero⟩ t)) b→Lt Γ φ ops j s a w b:=by
    intro j b hj hjl h
    obtain⟨b',hb'⟩:=oldl j hj hjl
    have hne:j ≠ i:=fun e=>hi (by rw[← e];exact hjl)
    have h':=lift j b' hj hne hb'
    obtain⟨⟨oj,dj,tj,h1,h2,h3,h4,h5,h6⟩,hf⟩:=h
    obtain⟨⟨oj',dj',tj',k1,k2,k3,k4,k5,k6⟩,kf⟩:=h'
    rw[h1] at k1;cases k1
    rw[h2] at k2;cases k2
    rw[h5] at k5;cases k5
    exact hb'
  refine⟨hS.real.alloc_none _,put_defs.trans hS.defers,put_size.trans hS.sizes,by simpa using hS.lsize,dc_set hS.lsize hS.dc hil hr,?_,?_,?_,?_,(fun i o d h1 h2=>by rw[put_size];exact hS.fit i o d h1 h2),?_⟩
  · intro j cj hj hjl
    rcases (hL j).1 hjl with rfl | hjl
    · rcases pw_cases hok.pair (x:=(j,cj)) (y:=(j,.late)) (by simp[hj]) (by simp[hm]) with h | h | h
      · cases h;rfl
      · exact absurd rfl h.ne
      · exact absurd rfl h.ne
    · exact hS.early j cj hj hjl
  · intro t' h1 h2
    have hdt:d ≠ t':=fun e=>h2 i _ hm ((hL i).2 (.inl rfl)) ho (by rw[e])
    rw[put_get (fun e=>hdt (by simpa using e))]
    refine hS.same t' (fun j cj oj hj hjl=>h1 j cj oj hj fun h=>?_) (fun j oj hj hjl=>h2 j oj hj ((hL j).2 (.inr hjl)))
    rcases (hL j).1 h with e | h
    · exact notd j cj hj e
    · exact hjl h
  · intro j cj hj hjl
    refine (hS.pend j cj hj fun h=>hjl ((hL j).2 (.inr h))).mono (fun w'' hk=>Kp.grown hS.real (fun n hn=>alloc_old w _ hn) hk) rfl (fun oj hoj=>⟨fun _ _=>rfl,fun _ _=>rfl⟩)
  · intro j hj hjl
    by_cases e:j=i
    · subst e
      have hH:=hS.real.inH.none (Nat.le_refl w.heap.size)
      have hO:=hS.real.inO.none (Nat.le_refl w.heap.size)
      refine⟨w.heap.size,⟨_,d,t,ho,rfl,rfl,rfl,?_,alloc_new w _⟩,hH,hO,hS.real.frm.size,fun k c hc=>?_⟩
      · exact put_self (hS.fit _ _ _ ho rfl)
      · have:=hS.real.loc_lt hc;omega
    · rcases (hL j).1 hjl with h | h
      · exact absurd h e
      · obtain⟨b,hb⟩:=oldl j hj h
        exact⟨b,lift j b hj e hb⟩
  · intro j k b hj hjl hk hkl h1 h2
    have new:∀ j,(j,.late)∈rest→In1 listed j→Lt Γ φ ops j s (a.put (some d) (.pointer (some ⟨w.heap.size,0,none⟩))) (w.alloc (.cells ⟨(Γ t).zero⟩ t)) b→b < w.heap.size:=by
      intro j hj hjl h
      obtain⟨⟨_,_,_,_,_,_,_,_,h6⟩,_⟩:=down j b hj hjl h
      exact (Array.getElem?_eq_some_iff.1 h6).1
    have self:Lt Γ φ ops i s (a.put (some d) (.pointer (some ⟨w.heap.size,0,none⟩))) (w.alloc (.cells ⟨(Γ t).zero⟩ t)) b→b=w.heap.size:=by
      rintro ⟨⟨oj,dj,tj,k1,k2,k3,k4,k5,k6⟩,kf⟩
      rw[ho] at k1;cases k1
      cases k2
      rw[put_self (hS.fit _ _ _ ho rfl)] at k5
      cases k5
      rfl
    rcases (hL j).1 hjl with e1 | l1<;>rcases (hL k).1 hkl with e2 | l2
    · rw[e1,e2]
    · subst e1;have:=self h1;have:=new k hk l2 h2;omega
    · subst e2;have:=self h2;have:=new j hj l1 h1;omega
    · exact hS.apart j k b hj l1 hk l2 (down j b hj l1 h1) (down k b hk l2 h2)
end
end Go.Proofs.YtgbhgfdgifkdhaaGreat.X

namespace Go.Proofs.YtgbhgfdgifkdhaaGreat.X
open Go PH
section
variable {Γ : TypeId → TI} {P : Program} {φ : Fr} {r : Option Nat} {pol : Tmp → Pol} {ops : List Oper} {done rest : List (Nat × Cls)} {s : S} {listed : Array Bool} {a0 a : Act} {w : World} {K : S → Prop}
theorem Lt.put {i : Nat} {b:Nat} {d:Option Tmp} {v:Value} (h:Lt Γ φ ops i s a w b) (hd:∀ o,ops[i]?=some o→∀ t,o.dst=some t→d ≠ some t):Lt Γ φ ops i s (a.put d v) w b:=by
  obtain⟨⟨o,t,ty,h1,h2,h3,h4,h5,h6⟩,hf⟩:=h
  exact⟨⟨o,t,ty,h1,h2,h3,h4,(put_get (hd o h1 t h2)).trans h5,h6⟩,hf⟩
theorem Lt.unput {i : Nat} {b:Nat} {d:Option Tmp} {v:Value} (h:Lt Γ φ ops i s (a.put d v) w b) (hd:∀ o,ops[i]?=some o→∀ t,o.dst=some t→d ≠ some t):Lt Γ φ ops i s a w b:=by
  obtain⟨⟨o,t,ty,h1,h2,h3,h4,h5,h6⟩,hf⟩:=h
  exact⟨⟨o,t,ty,h1,h2,h3,h4,(put_get (hd o h1 t h2)).symm.trans h5,h6⟩,hf⟩
theorem looks_same {i : Nat} {c:Cls} {o:Oper} (hok:OkD Γ ops (done++rest)) (hS:Sim Γ P r φ ops done rest s listed a0 a w) (hm:(i,c)∈done++rest) (hr:Rdy ops listed i) (ho:ops[i]?=some o) (hself:(i,c)∈done→∀ d,o.dst=some d→d ∉ o.looksAt ⟨ops⟩)
    (hl:∀ x∈rest,x.2=.late→In1 listed x.1→RelP ops (i,c) x) :
    ∀ t∈o.looksAt ⟨ops⟩,a.tmps[t]?=a0.tmps[t]?:=by
  intro t ht
  refine hS.same t (fun j cj oj hj hjl hoj e=>?_) (fun j oj hj hjl hoj e=>?_)
  · have hcj:=(hS.pend j cj hj hjl).cls
    rcases pw_cases hok.pair (x:=(j,cj)) (y:=(i,c)) (by simp[hj]) hm with h | h | h
    · cases h
      rw[ho] at hoj;cases hoj
      exact hself hj t e ht
    · exact hjl ((h.raw oj o t hoj ho e ht).listed hS.dc hr)
    · have:=(h.war o oj t ho hoj e ht).1
      dsimp only at this
      subst this
      rcases hcj with h | h | h<;>cases h
  · have:=((hl (j,.late) hj rfl hjl).war o oj t ho hoj e ht).1
    cases this
theorem run_pend {i : Nat} {c:Cls} {Kn:Act→World→Prop} {Q:Exit→Act→World→Prop} (hok:OkD Γ ops (done++rest)) (hS:Sim Γ P r φ ops done rest s listed a0 a w) (hi:¬ In1 listed i) (hm:(i,c)∈done) (hr:Rdy ops listed i)
    (hn:∀ a',Sim Γ P r φ ops done rest s (listed.setIfInBounds i true) a0 a' w→Kn a' w):wpOpIn (wide r) 0 P ⟨ops⟩ Q i Kn a w:=by
  have hP:=hS.pend i c hm hi
  obtain⟨hc,o,a1,v,ho,hz1,hv,hl1,hrun⟩:=hP
  obtain⟨o',ho',hdf,hsl,hself,hed,_,_⟩:=(hok.un (i,c) (by simp[hm])).get
  rw[ho] at ho';cases ho'
  have hcl:c ≠ .lock:=by rcases hc with rfl | rfl | rfl<;>simp
  have hil:i < ops.length:=(List.getElem?_eq_some_iff.1 ho).1
  have hL:=fun j=>getD_set (l:=listed) (i:=i) (j:=j) (by rw[hS.lsize];exact hil)
  have hlook:=looks_same hok hS (by simp[hm]) hr ho (fun _=>hself hcl) (fun x hx _ _=>hok.dr hm hx)
  refine wpOpIn_same ho hdf hsl (fun t ht=>(hlook t ht).trans (hl1 t ht).symm) (fun _ _ h=>h.elim) (fun ⟨_,_,h⟩=>h.elim) ?_ (fun d w' h=>put_defers_ne rfl h.1) (hrun w fun n hn=>rfl)
  rintro v' w' ⟨hp,rfl⟩
  have hvv:o.dst ≠ none→v'=v:=by
    intro hne
    cases hd:o.dst with
    | none=>exact absurd hd hne
    | some d=>
      rw[hd] at hp
      have this:(a1.put (some d) v').tmps[d]?=(a1.put (some d) v).tmps[d]?:=by rw[hp]
      have hlt:d < a1.tmps.size:=by
        have:=hS.fit i o d ho hd
        rw[hz1,← hS.sizes];exact this
      rw[put_self hlt,put_self hlt] at this
      exact Option.some.inj this
  have other:∀ j cj oj d,(j,cj)∈done++rest→ops[j]?=some oj→j ≠ i→oj.dst=some d→o.dst ≠ some d:=by
    intro j cj oj d hj hoj hne e e'
    rcases pw_cases hok.pair hj (y:=(i,c)) (by simp[hm]) with h | h | h
    · cases h;exact hne rfl
    · exact h.waw oj _ d hoj ho e e'
    · exact h.waw _ oj d ho hoj e' e
  have ne:∀ j,(j,.late)∈rest→j ≠ i:=fun j hj=>(hok.dr hm hj).ne.symm
  refine hn _ ⟨hS.real,put_defs.trans hS.defers,put_size.trans hS.sizes,by simpa using hS.lsize,dc_set hS.lsize hS.dc hil hr,?_,?_,?_,?_,(fun i o d h1 h2=>by rw[put_size];exact hS.fit i o d h1 h2),?_⟩
  · intro j cj hj hjl
    rcases (hL j).1 hjl with rfl | hjl
    · exact absurd rfl (hok.dr hm hj).ne
    · exact hS.early j cj hj hjl
  · intro t h1 h2
    by_cases e:o.dst=some t
    · rw[e,put_self (hS.fit i o t ho e),hvv (by rw[e];simp),hv t e]
    · rw[put_get e]
      refine hS.same t (fun j cj oj hj hjl hoj=>?_) (fun j oj hj hjl=>h2 j oj hj ((hL j).2 (.inr hjl)))
      by_cases ej:j=i
      · subst ej
        rw[ho] at hoj;cases hoj
        exact e
      · exact h1 j cj oj hj (fun h=>hjl (((hL j).1 h).resolve_left ej)) hoj
  · intro j cj hj hjl
    exact hS.pend j cj hj fun h=>hjl ((hL j).2 (.inr h))
  · intro j hj hjl
    obtain⟨b,hb⟩:=hS.late j hj (((hL j).1 hjl).resolve_left (ne j hj))
    exact⟨b,hb.put fun oj hoj t ht=>other j .late oj t (by simp[hj]) hoj (ne j hj) ht⟩
  · intro j k b hj hjl hk hkl h1 h2
    exact hS.apart j k b hj (((hL j).1 hjl).resolve_left (ne j hj)) hk (((hL k).1 hkl).resolve_left (ne k hk)) (h1.unput fun oj hoj t ht=>other j .late oj t (by simp[hj]) hoj (ne j hj) ht)
      (h2.unput fun oj hoj t ht=>other k .late oj t (by simp[hk]) hoj (ne k hk) ht)
end
end Go.Proofs.YtgbhgfdgifkdhaaGreat.X

namespace Go.Proofs.YtgbhgfdgifkdhaaGreat.X
open Go PH
section
variable {Γ : TypeId → TI} {P : Program} {φ : Fr} {r : Option Nat} {pol : Tmp → Pol} {ops : List Oper} {done rest : List (Nat × Cls)} {s : S} {listed : Array Bool} {a0 a : Act} {w : World} {K : S → Prop}
theorem run_lock {i : Nat} {Kn:Act→World→Prop} {Q:Exit→Act→World→Prop} (hΓ:∀ t,TIOK P t (Γ t)) (hok:OkD Γ ops (done++(i,.lock)::rest)) (hS:Sim Γ P r φ ops done ((i,.lock)::rest) s listed a0 a w) (hi:¬ In1 listed i) (hr:Rdy ops listed i)
    (h:drawK Γ P pol ops ((i,.lock)::rest) s K)
    (hn:∀ s' a0' a' w',Sim Γ P r φ ops (done++[(i,.lock)]) rest s' (listed.setIfInBounds i true) a0' a' w'→drawK Γ P pol ops rest s' K→Kn a' w'):wpOpIn (wide r) 0 P ⟨ops⟩ Q i Kn a w:=by
  obtain⟨env,loc,H,O⟩:=s
  obtain⟨o,ho,hdf,hsl,_,hed,_,_⟩:=(hok.un (i,.lock) (by simp)).get
  have hil:i < ops.length:=(List.getElem?_eq_some_iff.1 ho).1
  have hL:=fun j=>getD_set (l:=listed) (i:=i) (j:=j) (by rw[hS.lsize];exact hil)
  have hlook:=looks_same hok hS (c:=.lock) (by simp) hr ho (fun hm=>absurd rfl (hok.dr hm (y:=(i,.lock)) (by simp)).ne) (fun x hx hxl _=>by
    rcases List.mem_cons.1 hx with rfl | hx
    · cases hxl
    · exact hok.hd hx)
  obtain⟨d,op,ty,ps,af,g⟩:=o
  dsimp only at hdf hsl
  have fin:∀ (s1:S) (env2:List En) (v:Value) (w2:World),Real φ ⟨env2,s1.loc,s1.H,s1.O⟩ (a0.put d v) w2→drawK Γ P pol ops rest ⟨env2,s1.loc,s1.H,s1.O⟩ K →
      (∀ j cj,(j,cj)∈done→¬ In1 listed j→∀ w3,Kp cj ⟨env2,s1.loc,s1.H,s1.O⟩ w2 w3→Kp cj ⟨env,loc,H,O⟩ w w3) →
      (∀ b,b < w.heap.size→Fresh φ ⟨env,loc,H,O⟩ b→Fresh φ ⟨env2,s1.loc,s1.H,s1.O⟩ b∧w2.heap[b]?=w.heap[b]?)→Kn (a.put d v) w2:=by
    intro s1 env2 v w2 hR2 hk hkp hfr
    have nd:∀ j cj,(j,cj)∈done→j ≠ i:=fun j cj hj=>(hok.dr hj (y:=(i,.lock)) (by simp)).ne
    have nr:∀ j,(j,Cls.late)∈rest→j ≠ i:=fun j hj=>(hok.hd hj).ne.symm
    have dr:∀ j oj t,(j,Cls.late)∈rest→ops[j]?=some oj→oj.dst=some t→d ≠ some t:=fun j oj t hj hoj ht e=>(hok.hd hj).waw _ oj t ho hoj e ht
    have up:∀ j b,(j,Cls.late)∈rest→Lt Γ φ ops j ⟨env,loc,H,O⟩ a w b→Lt Γ φ ops j ⟨env2,s1.loc,s1.H,s1.O⟩ (a.put d v) w2 b:=by
      intro j b hj hb
      obtain⟨⟨oj,dj,tj,h1,h2,h3,h4,h5,h6⟩,hf⟩:=hb
      obtain⟨hf',hw⟩:=hfr b (Array.getElem?_eq_some_iff.1 h6).1 hf
      exact⟨⟨oj,dj,tj,h1,h2,h3,h4,(put_get (dr j oj dj hj h1 h2)).trans h5,hw.trans h6⟩,hf'⟩
    have down:∀ j b,(j,Cls.late)∈rest→In1 listed j→Lt Γ φ ops j ⟨env2,s1.loc,s1.H,s1.O⟩ (a.put d v) w2 b→Lt Γ φ ops j ⟨env,loc,H,O⟩ a w b:=by
      intro j b hj hjl h
      obtain⟨b',hb'⟩:=hS.late j (by simp[hj]) hjl
      obtain⟨⟨oj,dj,tj,h1,h2,h3,h4,h5,h6⟩,hf⟩:=h
      obtain⟨⟨oj',dj',tj',k1,k2,k3,k4,k5,k6⟩,kf⟩:=up j b' hj hb'
      rw[h1] at k1;cases k1
      rw[h2] at k2;cases k2
      rw[h5] at k5;cases k5
      exact hb'
    refine hn ⟨env2,s1.loc,s1.H,s1.O⟩ (a0.put d v) (a.put d v) w2 ⟨hR2,(put_defs.trans hS.defers).trans put_defs.symm,(put_size.trans hS.sizes).trans put_size.symm,by simpa using hS.lsize,dc_set hS.lsize hS.dc hil hr,?_,?_,?_,?_,(fun i o d h1 h2=>by rw[put_size];exact hS.fit i o d h1 h2),?_⟩ hk
    · intro j cj hj hjl
      rcases (hL j).1 hjl with rfl | hjl
      · exact absurd rfl (hok.hd hj).ne
      · exact hS.early j cj (by simp[hj]) hjl
    · intro t h1 h2
      by_cases e:d=some t
      · subst e
        have hlt:=hS.fit i _ t ho rfl
        rw[put_self hlt,put_self (by rw[← hS.sizes];exact hlt)]
      · rw[put_get e,put_get e]
        refine hS.same t (fun j cj oj hj hjl hoj=>h1 j cj oj (by simp[hj]) (fun h=>hjl (((hL j).1 h).resolve_left (nd j cj hj))) hoj) (fun j oj hj hjl hoj=>?_)
        rcases List.mem_cons.1 hj with e' | hj
        · cases e'
        · exact h2 j oj hj ((hL j).2 (.inr hjl)) hoj
    · intro j cj hj hjl
      have hjl':¬ In1 listed j:=fun h=>hjl ((hL j).2 (.inr h))
      rcases List.mem_append.1 hj with hj | hj
      · have hrel:=hok.dr hj (y:=(i,.lock)) (by simp)
        refine (hS.pend j cj hj hjl').mono (hkp j cj hj hjl') put_size (fun oj hoj=>⟨fun d' hd'=>put_get fun e=>?_,fun t ht=>put_get fun e=>?_⟩)
        · exact hrel.waw oj _ d' hoj ho hd' e
        · exact hjl' ((hrel.war oj _ t hoj ho e ht).2.listed hS.dc hr)
      · simp only[List.mem_singleton,Prod.mk.injEq] at hj
        obtain⟨rfl,rfl⟩:=hj
        exact absurd ((hL j).2 (.inl rfl)) hjl
    · intro j hj hjl
      obtain⟨b,hb⟩:=hS.late j (by simp[hj]) (((hL j).1 hjl).resolve_left (nr j hj))
      exact⟨b,up j b hj hb⟩
    · intro j k b hj hjl hk hkl h1 h2
      have l1:=((hL j).1 hjl).resolve_left (nr j hj)
      have l2:=((hL k).1 hkl).resolve_left (nr k hk)
      exact hS.apart j k b (by simp[hj]) l1 (by simp[hk]) l2 (down j b hj l1 h1) (down k b hk l2 h2)
  have transfer:∀ K':Act→World→Prop,wpOpIn (wide r) 0 P ⟨ops⟩ (fun _ _ _=>False) i (fun a₂ w₂=>∃ v,a₂=a0.put d v∧K' (a.put d v) w₂) a0 w→wpOpIn (wide r) 0 P ⟨ops⟩ Q i K' a w:=by
    intro K' hK'
    refine wpOpIn_same ho hdf hsl hlook (fun _ _ h=>h.elim) (fun ⟨_,_,h⟩=>h.elim) ?_ (fun d w' h=>by obtain⟨v,h,_⟩:=h;exact put_defers_ne rfl h) hK'
    rintro v' w' ⟨v,hp,hk⟩
    cases hd:d with
    | none=>subst hd;exact hk
    | some d'=>
      subst hd
      have hlt:=hS.fit i _ d' ho rfl
      have this:(a0.put (some d') v').tmps[d']?=(a0.put (some d') v).tmps[d']?:=by rw[hp]
      rw[put_self (by rw[← hS.sizes];exact hlt),put_self (by rw[← hS.sizes];exact hlt)] at this
      cases this
      exact hk
  unfold drawK at h
  obtain⟨o',ho',h⟩:=getK_iff.1 h
  rw[ho] at ho'
  cases ho'
  have pendc:∀ j cj,(j,cj)∈done→¬ In1 listed j→cj=.pendH∨(cj=.pend∧Op.kd op ≠ .free)∨(cj=.pendO∧Op.kd op=.alc):=by
    intro j cj hj hjl
    have hrel:=hok.dr hj (y:=(i,.lock)) (by simp)
    rcases (hS.pend j cj hj hjl).cls with h | h | h
    · exact .inr (.inl ⟨h,fun hk=>hjl ((hrel.free _ ho rfl hk (by dsimp only;rw[h];simp)).listed hS.dc hr)⟩)
    · refine .inr (.inr ⟨h,Classical.byContradiction fun hk=>?_⟩)
      exact absurd ((hrel.pendO _ ho h rfl hk).listed hS.dc hr) hjl
    · exact .inl h
  rcases guardK_inv (o:=⟨d,op,ty,ps,af,g⟩) rfl hS.real h with⟨hw,env1,h,hR1⟩ | ⟨hw,env1,h,hR1⟩
  · refine transfer _ (wpOpIn_yes ho hw (opK_sound hΓ hR1 h ?_))
    intro v w2 s1 e hk hst hR2 hh
    obtain⟨env',loc',H',O'⟩:=s1
    obtain⟨env2,hk,hR3⟩:=hR2.put hh hk
    refine⟨v,rfl,fin ⟨env',loc',H',O'⟩ env2 v w2 hR3 hk ?_ ?_⟩
    · intro j cj hj hjl w3 hkp
      have onH:Sub H H'→∀ n,H n ≠ none→w3.heap[n]?=w.heap[n]?:=by
        intro hsub n hn
        obtain⟨ob,hob⟩:=Option.ne_none_iff_exists'.1 hn
        have h1:=hsub n ob hob
        refine (hkp n (.inl (by dsimp only;rw[h1];simp))).trans ?_
        rw[hR3.inH n ob h1,hR1.inH n ob hob]
      rcases pendc j cj hj hjl with rfl | ⟨rfl,hfree⟩ | ⟨rfl,halc⟩
      · intro n hn
        have hn:H n ≠ none:=by
          rcases hn with hn | ⟨hn,_⟩ | ⟨hn,_⟩
          · exact hn
          · exact absurd rfl hn
          · cases hn
        revert hst
        cases hkd:Op.kd op<;>intro hst
        · obtain⟨e,_⟩:=hst
          cases e
          exact onH (Sub.refl _) n hn
        · exact onH hst.sub n hn
        · exact onH hst.1 n hn
        · exact onH hst.grow.sub n hn
      rotate_left
      · rw[halc] at hst
        dsimp only at hst hkp
        obtain⟨⟨⟨l,hl,_⟩,hsub,hsz,hold⟩,hsame,hown⟩:=hst
        dsimp only at hl hsub hold hown
        intro n hn
        rcases hn with hn | ⟨_,k,b,hb,rfl⟩ | ⟨_,hn⟩
        · exact onH hsub n hn
        · refine (hkp b.n (.inr (.inl ⟨by simp,k,b,?_,rfl⟩))).trans (hsame b.n (hS.real.loc_lt hb))
          dsimp only at hb ⊢
          rw[hl,List.getElem?_append_left (List.getElem?_eq_some_iff.1 hb).1];exact hb
        · obtain⟨ob,hob⟩:=Option.ne_none_iff_exists'.1 hn
          exact (hkp n (.inr (.inr ⟨rfl,hown n hn⟩))).trans (hsame n (hS.real.inO.lt hob))
      dsimp only at hst hkp
      revert hst
      cases hkd:Op.kd op<;>intro hst
      · obtain⟨e,rfl⟩:=hst
        cases e
        exact hkp
      · obtain⟨⟨l,hl,_⟩,hsub,hsz,hold⟩:=hst
        dsimp only at hl hsub hold
        intro n hn
        rcases hn with hn | ⟨_,k,b,hb,rfl⟩ | ⟨hn,_⟩
        · obtain⟨ob,hob⟩:=Option.ne_none_iff_exists'.1 hn
          have hlt:=hS.real.inH.lt hob
          have hOn:=(hS.real.dis n).resolve_left hn
          obtain⟨h1,h2,h3⟩:=hold n hlt hOn
          refine (hkp n (.inl ?_)).trans h1
          dsimp only at hn ⊢
          rw[h2];exact hn
        · have hlt:=hS.real.loc_lt hb
          have hOn:=(hS.real.loc k b hb).2.1
          obtain⟨h1,h2,h3⟩:=hold b.n hlt hOn
          refine (hkp b.n (.inr (.inl ⟨by simp,k,b,?_,rfl⟩))).trans h1
          dsimp only at hb ⊢
          rw[hl,List.getElem?_append_left (List.getElem?_eq_some_iff.1 hb).1];exact hb
        · cases hn
      · exact absurd hkd hfree
      · obtain⟨⟨⟨l,hl,_⟩,hsub,hsz,hold⟩,hsame,hown⟩:=hst
        dsimp only at hl hsub hold
        intro n hn
        rcases hn with hn | ⟨_,k,b,hb,rfl⟩ | ⟨hn,_⟩
        · exact onH hsub n hn
        · refine (hkp b.n (.inr (.inl ⟨by simp,k,b,?_,rfl⟩))).trans (hsame b.n (hS.real.loc_lt hb))
          dsimp only at hb ⊢
          rw[hl,List.getElem?_append_left (List.getElem?_eq_some_iff.1 hb).1];exact hb
        · cases hn
    · intro b hb hf
      obtain⟨f1,f2,f3,f4⟩:=hf
      dsimp only at f1 f2 f3 f4 hst
      revert hst
      cases hkd:Op.kd op<;>intro hst
      · obtain⟨e,rfl⟩:=hst
        cases e
        exact⟨⟨f1,f2,f3,f4⟩,rfl⟩
      · obtain⟨⟨l,hl,hln⟩,hsub,hsz,hold⟩:=hst
        dsimp only at hl hsub hold
        obtain⟨h1,h2,h3⟩:=hold b hb f2
        refine⟨⟨h2.trans f1,h3,f3,fun k c hc=>?_⟩,h1⟩
        dsimp only at hc
        rw[hl] at hc
        rcases Nat.lt_or_ge k loc.length with hlt | hge
        · rw[List.getElem?_append_left hlt] at hc
          exact f4 k c hc
        · rw[List.getElem?_append_right hge] at hc
          have:=hln c (List.mem_of_getElem? hc)
          omega
      · obtain⟨h1,h2,h3,h4⟩:=hst.2 b hb f1 f2 f4
        exact⟨⟨h2,h3,f3,h4⟩,h1⟩
      · obtain⟨⟨⟨l,hl,hln⟩,hsub,hsz,hold⟩,hsame,hown⟩:=hst
        dsimp only at hl hsub hold
        obtain⟨h1,h2,h3⟩:=hold b hb f2
        refine⟨⟨h2.trans f1,h3,f3,fun k c hc=>?_⟩,h1⟩
        dsimp only at hc
        rw[hl] at hc
        rcases Nat.lt_or_ge k loc.length with hlt | hge
        · rw[List.getElem?_append_left hlt] at hc
          exact f4 k c hc
        · rw[List.getElem?_append_right hge] at hc
          have:=hln c (List.mem_of_getElem? hc)
          omega
  · refine transfer _ (wpOpIn_no ho hw ⟨undef,rfl,?_⟩)
    obtain⟨env2,hk,hR3⟩:=hR1.put (e:=.v undef) (v:=undef) rfl h
    exact fin ⟨env1,loc,H,O⟩ env2 undef w hR3 hk (fun j cj hj hjl w3 h=>h) (fun b hb hf=>⟨hf,rfl⟩)
theorem adv_many (hΓ : ∀ t,TIOK P t (Γ t)):∀ (pre:List (Nat × Cls)) (done:List (Nat × Cls)) (s:S) (a0:Act),OkD Γ ops (done++(pre++rest))→Sim Γ P r φ ops done (pre++rest) s listed a0 a w→drawK Γ P pol ops (pre++rest) s K →
    (∀ x∈pre,(x.2=.late∧In1 listed x.1)∨((x.2=.pend∨x.2=.pendO∨x.2=.pendH)∧¬ In1 listed x.1))→∃ s' a0',OkD Γ ops ((done++pre)++rest)∧Sim Γ P r φ ops (done++pre) rest s' listed a0' a w∧drawK Γ P pol ops rest s' K
  | [],done,s,a0,hok,hS,h,_=>⟨s,a0,by simpa using hok,by simpa using hS,h⟩
  | (i,c)::pre,done,s,a0,hok,hS,h,hx=>by
    have step:∃ s' a0',Sim Γ P r φ ops (done++[(i,c)]) (pre++rest) s' listed a0' a w∧drawK Γ P pol ops (pre++rest) s' K:=by
      rcases hx (i,c) (by simp) with⟨hc,hi⟩ | ⟨hc,hi⟩
      · dsimp only at hc
        subst hc
        exact adv_late hok hS hi h
      · exact adv_pend hΓ hok hS hc hi h
    obtain⟨s',a0',hS',h'⟩:=step
    obtain⟨s2,a2,h1,h2,h3⟩:=adv_many hΓ pre (done++[(i,c)]) s' a0' (by simpa using hok) hS' h' (fun x hx'=>hx x (by simp[hx']))
    exact⟨s2,a2,by simpa using h1,by simpa using h2,h3⟩
end
end Go.Proofs.YtgbhgfdgifkdhaaGreat.X

namespace Go.Proofs.YtgbhgfdgifkdhaaGreat.X
open Go PH
theorem filter_lt {α : Type} {p q:α→Bool}:∀ {l:List α},(∀ x∈l,q x=true→p x=true)→(∃ x∈l,p x=true∧q x=false)→(l.filter q).length < (l.filter p).length
  | [],_,⟨_,hx,_⟩=>by simp at hx
  | y::l,h,⟨x,hx,hp,hq⟩=>by
    have le:∀ {l:List α},(∀ x∈l,q x=true→p x=true)→(l.filter q).length≤(l.filter p).length:=by
      intro l
      induction l with
      | nil=>intro _;simp
      | cons z l ih=>
        intro h
        have:=ih fun x hx=>h x (by simp[hx])
        have hz:=h z (by simp)
        simp only[List.filter_cons]
        cases hq:q z<;>cases hp:p z<;>simp_all<;>omega
    have hl:=le fun x hx=>h x (List.mem_cons_of_mem y hx)
    rcases List.mem_cons.1 hx with rfl | hx
    · simp[List.filter_cons,hp,hq];omega
    · have:=filter_lt (p:=p) (q:=q) (l:=l) (fun x hx=>h x (by simp[hx])) ⟨x,hx,hp,hq⟩
      have hy:=h y (by simp)
      simp only[List.filter_cons]
      cases hq:q y<;>cases hp:p y<;>simp_all<;>omega
section
variable {Γ : TypeId → TI} {P : Program} {φ : Fr} {r : Option Nat} {pol : Tmp → Pol} {ops : List Oper} {K : S → Prop}
def unl (ops : List Oper) (listed:Array Bool):Nat:=((List.range ops.length).filter fun k=>!(listed.getD k false)).length
theorem all_listed {ord : List (Nat × Cls)} {listed:Array Bool} (hls:listed.size=ops.length) (hok:OkD Γ ops ord) (h:Region.ready .any ⟨ops⟩ listed=[]):∀ k,k < ops.length→In1 listed k:=by
  have key:∀ (suf pre:List (Nat × Cls)),ord=pre++suf→(∀ x∈pre,In1 listed x.1)→∀ x∈suf,In1 listed x.1:=by
    intro suf
    induction suf with
    | nil=>intro pre _ _ x hx;simp at hx
    | cons y suf ih=>
      intro pre he hpre
      have hy:In1 listed y.1:=by
        refine Classical.byContradiction fun hn=>?_
        obtain⟨o,ho,_,_,_,hed,_,_⟩:=(hok.un y (by simp[he])).get
        have hlt:y.1 < ops.length:=(List.getElem?_eq_some_iff.1 ho).1
        have:y.1∈Region.ready .any ⟨ops⟩ listed:=by
          refine mem_ready.2 ⟨?_,o,by simpa using ho,fun e he' hb=>?_⟩
          · unfold In1 at hn
            have hlt':y.1 < listed.size:=by omega
            simp[Array.getD_eq_getD_getElem?,hlt'] at hn ⊢
            exact hn
          · have he'':e∈o.after.toList:=by simpa using he'
            obtain⟨hne,hon⟩:=hed e he'' hb
            obtain⟨c,hc⟩:=hok.cover e.on hon
            rw[he] at hc
            rcases List.mem_append.1 hc with hc | hc
            · exact hpre _ hc
            · rcases List.mem_cons.1 hc with hc | hc
              · exact absurd (by rw[← hc]) hne
              · have hp:=hok.pair
                rw[he] at hp
                exact absurd rfl (((List.pairwise_cons.1 (List.pairwise_append.1 hp).2.1).1 _ hc).back o ho e he'' hb)
        rw[h] at this
        simp at this
      intro x hx
      rcases List.mem_cons.1 hx with rfl | hx
      · exact hy
      · exact ih (pre++[y]) (by simp[he]) (fun z hz=>by
          rcases List.mem_append.1 hz with hz | hz
          · exact hpre z hz
          · simp at hz;subst hz;exact hy) x hx
  intro k hk
  obtain⟨c,hc⟩:=hok.cover k hk
  exact key ord [] rfl (by simp) _ hc
theorem draw_done {done rest : List (Nat × Cls)} {s:S} {listed:Array Bool} {a0 a:Act} {w:World} {Q:Exit→Act→World→Prop} (hQ:∀ s' a' w',K s'→Real φ s' a' w'→Q .normal a' w') (hΓ:∀ t,TIOK P t (Γ t)) (hok:OkD Γ ops (done++rest)) (hS:Sim Γ P r φ ops done rest s listed a0 a w)
    (h:drawK Γ P pol ops rest s K) (hr:Region.ready .any ⟨ops⟩ listed=[]):Q .normal a w:=by
  have hall:=all_listed hS.lsize hok hr
  have hin:∀ x∈done++rest,In1 listed x.1:=fun x hx=>by
    obtain⟨o,ho,_⟩:=(hok.un x hx).get
    exact hall _ (List.getElem?_eq_some_iff.1 ho).1
  obtain⟨s',a0',hok',hS',h'⟩:=adv_many (rest:=[]) hΓ rest done s a0 (by simpa using hok) (by simpa using hS) (by simpa using h) (fun x hx=>.inl ⟨hS.early x.1 x.2 hx (hin x (by simp[hx])),hin x (by simp[hx])⟩)
  have e:a=a0':=by
    have ht:a.tmps=a0'.tmps:=by
      apply Array.ext_getElem?
      intro t
      exact hS'.same t (fun j cj oj hj hjl=>absurd (hin (j,cj) hj) hjl) (fun j oj hj=>by simp at hj)
    cases a;cases a0'
    have:=hS'.defers
    simp at ht this
    rw[ht,this]
  exact hQ s' a w h' (by rw[e];exact hS'.real)
theorem draw_sound {Q : Exit→Act→World→Prop} (hQ:∀ s' a' w',K s'→Real φ s' a' w'→Q .normal a' w') (hΓ:∀ t,TIOK P t (Γ t)):∀ (fuel:Nat) (done rest:List (Nat × Cls)) (s:S) (listed:Array Bool) (a0 a:Act) (w:World),
    OkD Γ ops (done++rest)→Sim Γ P r φ ops done rest s listed a0 a w→drawK Γ P pol ops rest s K→unl ops listed≤fuel→wpAnyIn (wide r) 0 P .any ⟨ops⟩ Q fuel listed a w
  | 0,done,rest,s,listed,a0,a,w,hok,hS,h,hu=>by
    have hall:∀ k,k < ops.length→In1 listed k:=by
      intro k hk
      refine Classical.byContradiction fun hn=>?_
      have:k∈(List.range ops.length).filter fun k=>!(listed.getD k false):=List.mem_filter.2 ⟨List.mem_range.2 hk,by unfold In1 at hn;simpa using hn⟩
      have:=List.length_pos_of_mem this
      unfold unl at hu
      omega
    have hr:Region.ready .any ⟨ops⟩ listed=[]:=by
      apply List.eq_nil_iff_forall_not_mem.2
      intro k hk
      obtain⟨h1,o,ho,_⟩:=mem_ready.1 hk
      have hlt:k < ops.length:=by simpa using (Array.getElem?_eq_some_iff.1 ho).1
      have:=hall k hlt
      unfold In1 at this
      have hlt':k < listed.size:=by rw[hS.lsize];exact hlt
      simp[Array.getD_eq_getD_getElem?,hlt'] at h1 this
      rw[h1] at this;cases this
    exact⟨hr,draw_done hQ hΓ hok hS h hr⟩
  | fuel+1,done,rest,s,listed,a0,a,w,hok,hS,h,hu=>by
    refine⟨fun hr=>draw_done hQ hΓ hok hS h hr,fun i hi=>?_⟩
    obtain⟨h1,o,ho,hed⟩:=mem_ready.1 hi
    have hil:i < ops.length:=by simpa using (Array.getElem?_eq_some_iff.1 ho).1
    have hio:ops[i]?=some o:=by simpa using ho
    have hn:¬ In1 listed i:=by
      unfold In1
      have hlt':i < listed.size:=by rw[hS.lsize];exact hil
      simp[Array.getD_eq_getD_getElem?,hlt'] at h1 ⊢
      exact h1
    have hrdy:Rdy ops listed i:=fun o' ho' e he hb=>by
      rw[hio] at ho';cases ho'
      exact hed e (by simpa using he) hb
    have hu':unl ops (listed.setIfInBounds i true)≤fuel:=by
      have:unl ops (listed.setIfInBounds i true) < unl ops listed:=by
        refine filter_lt (fun x _ hx=>?_) ⟨i,List.mem_range.2 hil,?_,?_⟩
        · simp only[Bool.not_eq_true'] at hx ⊢
          cases hx':listed.getD x false
          · rfl
          · rw[(getD_set (by rw[hS.lsize];exact hil)).2 (.inr hx')] at hx;cases hx
        · unfold In1 at hn;simpa using hn
        · rw[(getD_set (by rw[hS.lsize];exact hil)).2 (.inl rfl)];rfl
      omega
    obtain⟨c,hc⟩:=hok.cover i hil
    rcases List.mem_append.1 hc with hc | hc
    · exact run_pend hok hS hn hc hrdy fun a' hS'=>draw_sound hQ hΓ fuel done rest s _ a0 a' w hok hS' h hu'
    · by_cases hcl:c=.late
      · subst hcl
        exact start_late hΓ hok hS hn hc hrdy fun a' w' hS'=>draw_sound hQ hΓ fuel done rest s _ a0 a' w' hok hS' h hu'
      · obtain⟨pre,post,rfl⟩:=List.append_of_mem hc
        have hpre:∀ x∈pre,(x.2=.late∧In1 listed x.1)∨((x.2=.pend∨x.2=.pendO∨x.2=.pendH)∧¬ In1 listed x.1):=by
          intro x hx
          have hp:=hok.pair
          rw[← List.append_assoc] at hp
          have hrel:=(List.pairwise_append.1 hp).2.2 x (by simp[hx]) (i,c) (by simp)
          by_cases hx1:In1 listed x.1
          · exact .inl ⟨hS.early x.1 x.2 (by simp[hx]) hx1,hx1⟩
          · refine .inr ⟨?_,hx1⟩
            cases hxc:x.2 with
            | pend=>exact .inl rfl
            | pendO=>exact .inr (.inl rfl)
            | pendH=>exact .inr (.inr rfl)
            | lock=>exact absurd ((hrel.seq (.inl hxc) hcl).listed hS.dc hrdy) hx1
            | late=>exact absurd ((hrel.seq (.inr hxc) hcl).listed hS.dc hrdy) hx1
        obtain⟨s1,a1,hok1,hS1,h1⟩:=adv_many hΓ pre done s a0 hok hS h hpre
        by_cases hlk:c=.lock
        · subst hlk
          exact run_lock hΓ hok1 hS1 hn hrdy h1 fun s' a0' a' w' hS' h'=>draw_sound hQ hΓ fuel _ post s' _ a0' a' w' (by simpa using hok1) hS' h' hu'
        · have hcp:c=.pend∨c=.pendO∨c=.pendH:=by cases c<;>simp_all
          obtain⟨s2,a2,hS2,h2⟩:=adv_pend hΓ hok1 hS1 hcp hn h1
          have hok2:OkD Γ ops (((done++pre)++[(i,c)])++post):=hok1.shift
          exact run_pend hok2 hS2 hn (c:=c) (by simp) hrdy fun a' hS'=>draw_sound hQ hΓ fuel _ post s2 _ a2 a' w hok2 hS' h2 hu'
def fitB (n : Nat) (ops:List Oper):Bool:=ops.all fun o=>match o.dst with
  | none=>true
  | some d=>Nat.blt d n
theorem W_draw {id : Nat} {env:List En} {loc:List (Option B)} {H O:PH} {KK:Exit→S→Prop} (hΓ:∀ t,TIOK P t (Γ t)) (hm:P.follows .mixedOrders=true) (ord:List (Nat × Cls)) (n:Nat) (hc:(okDraw Γ ops ord && fitB n ops)=true) (hn:env.length=n)
    (h:drawK Γ P pol ops ord ⟨env,loc,H,O⟩ (KK .normal)):W P r (.region id ⟨ops⟩ true) ⟨env,loc,H,O⟩ KK:=by
  rw[Bool.and_eq_true] at hc
  have hok:=okDraw_ok hc.1
  unfold W
  intro φ a w hr hR
  refine wpIn_region_any hm ?_
  have hR':Real φ ⟨env,loc,H,O⟩ a { w with drawn:=w.drawn+1 }:=
    ⟨hR.size,hR.env,hR.loc,hR.apart,hR.inH,hR.inO,hR.dis,hR.sub,hR.old,⟨hR.frm.os,hR.frm.tape,hR.frm.output,hR.frm.size,hR.frm.block⟩,hR.uniq,hR.marks⟩
  have hno:∀ i,¬ In1 (Array.replicate ops.length false) i:=fun i h=>by
    unfold In1 at h
    simp[Array.getD_eq_getD_getElem?,Array.getElem?_replicate] at h
    split at h<;>simp at h
  refine draw_sound (pol:=pol) (K:=KK .normal) (fun s' a' w' hk hR'=>⟨rfl,s',hk,hR'⟩) hΓ ops.length [] ord _ _ a a _ hok ⟨hR',rfl,rfl,by simp,?_,?_,?_,?_,?_,?_,?_⟩ h ?_
  · exact fun j hj=>absurd hj (hno j)
  · exact fun i c _ hi=>absurd hi (hno i)
  · exact fun t _ _=>rfl
  · exact fun i c hi=>by simp at hi
  · exact fun i _ hi=>absurd hi (hno i)
  · intro i o d ho hd
    have:=List.all_eq_true.1 hc.2 o (List.mem_of_getElem? ho)
    rw[hd] at this
    have hsz:=hR.size
    have:d < n:=by simpa using this
    simp at hsz
    omega
  · exact fun i j b _ hi=>absurd hi (hno i)
  · unfold unl
    exact Nat.le_trans (List.length_filter_le _ _) (by simp)
end
end Go.Proofs.YtgbhgfdgifkdhaaGreat.X

namespace Go.Proofs.YtgbhgfdgifkdhaaGreat.X
open Go PH
theorem Cl.use {P : Program} {f:FuncId} {args:List Value} {H O:PH} {Q K:Value→PH→PH→Prop} (h:Cl P f args H emp Q)
    (k:∀ v H',Sub H H'→(∃ M',Q v H' M')→K v H' O):Cl P f args H O K:=by
  refine Cl.drop (h.pure.mono ?_)
  rintro v H' O' hs ⟨M',hp,hq⟩
  exact⟨O,hp.right,k v H' hs ⟨M',hq⟩⟩
theorem Cl.val {P : Program} {f:FuncId} {args:List Value} {H O:PH} {x:Value} {K:Value→PH→PH→Prop} (h:Cl P f args H emp fun v _ _=>v=x)
    (k:∀ H',Sub H H'→K x H' O):Cl P f args H O K:=
  h.use fun v H' hs ⟨_,hv⟩=>by rw[hv];exact k H' hs
def Does (P : Program) (H:PH) (f:Value) (args:List Value) (Q:Value→PH→Prop):Prop:=
  ∃ g first cap,f=.func (.func g) ⟨first⟩ ⟨cap⟩∧∀ H',Sub H H'→Cl P g (first++args++cap) H' emp fun v H'' _=>Q v H''
theorem Does.up {P : Program} {H H':PH} {f:Value} {args:List Value} {Q:Value→PH→Prop} (h:Does P H f args Q) (hs:Sub H H'):Does P H' f args Q:=by
  obtain⟨g,first,cap,e,h⟩:=h
  exact⟨g,first,cap,e,fun H'' hs'=>h H'' (hs.trans hs')⟩
theorem Does.use {P : Program} {H O:PH} {f:Value} {args:List Value} {Q:Value→PH→Prop} {K:Value→PH→PH→Prop} (h:Does P H f args Q) (k:∀ v H',Sub H H'→Q v H'→K v H' O):callK P f args H O K:=by
  obtain⟨g,first,cap,rfl,h⟩:=h
  unfold callK
  exact appK_iff.2 (appK_iff.2 ((h H (Sub.refl H)).use fun v H' hs ⟨_,hq⟩=>k v H' hs hq))
theorem wrap_id {n : Int} (h1:-9223372036854775808≤n) (h2:n < 9223372036854775808):IntKind.i64.wrap n=n:=by rw[IntKind.wrap_i64];omega
def SlH (H : PH) (v:Value) (n:Nat) (cells:List Value):Prop:=
  ∃ base cap,v=.slice base n cap∧((n=0∧cells=[])∨∃ b off c t fr,base=some ⟨b,off,none⟩∧H b=some (.cells c t fr)∧(c.toList.drop off).take cells.length=cells)
theorem SlH.up {H H' : PH} {v:Value} {n:Nat} {cells:List Value} (h:SlH H v n cells) (hs:Sub H H'):SlH H' v n cells:=by
  obtain⟨base,cap,hv,h⟩:=h
  refine⟨base,cap,hv,h.imp id ?_⟩
  rintro ⟨b,off,c,t,fr,h1,h2,h3⟩
  exact⟨b,off,c,t,fr,h1,hs _ _ h2,h3⟩
theorem SlH.rd {H O : PH} {base:Option Addr} {n cap sz:Nat} {cells:List Value} (h:SlH H (.slice base n cap) n cells) (hl:cells.length=n*sz) {i:Nat} (hi:i < n) :
    ∃ b off,base=some ⟨b,off,none⟩∧Rd H O ⟨b,off+i*sz,none⟩ sz ((cells.drop (i*sz)).take sz):=by
  obtain⟨base',cap',hv,h⟩:=h
  cases hv
  rcases h with⟨h,_⟩ | ⟨b,off,c,t,fr,h1,h2,h3⟩
  · omega
  · refine⟨b,off,h1,rfl,?_,c,t,fr,.inl h2,?_⟩
    · rw[List.length_take,List.length_drop,hl]
      have:(i+1)*sz≤n*sz:=Nat.mul_le_mul_right _ hi
      rw[Nat.succ_mul] at this
      omega
    · have e:=congrArg (fun l=>(List.drop (i*sz) l).take sz) h3
      rw[← e,List.drop_take,List.drop_drop,List.take_take]
      congr 1
      rw[hl]
      have:(i+1)*sz≤n*sz:=Nat.mul_le_mul_right _ hi
      rw[Nat.succ_mul] at this
      omega
theorem Rd.whole {H O : PH} {b:Nat} {cs:List Value} {t:TypeId} {fr:Nat × Nat} (h:H b=some (.cells ⟨cs⟩ t fr)):Rd H O ⟨b,0,none⟩ cs.length cs:=
  ⟨rfl,rfl,⟨cs⟩,t,fr,.inl h,by simp⟩
end Go.Proofs.YtgbhgfdgifkdhaaGreat.X

namespace Go.Proofs.YtgbhgfdgifkdhaaGreat.X
open Go PH
def locPH (loc : List (Option B)):PH:=fun n=>loc.findSome? fun x=>match x with
  | some b=>if b.n=n∧b.pub=false then some b.obj else none
  | none=>none
theorem locPH_some {loc : List (Option B)} {n:Nat} {o:Obj} (h:locPH loc n=some o):∃ (i:Nat) (b:B),loc[i]?=some (some b)∧b.n=n∧b.pub=false∧o=b.obj:=by
  obtain⟨x,hx,he⟩:=List.exists_of_findSome?_eq_some h
  obtain⟨i,hi⟩:=List.mem_iff_getElem?.1 hx
  cases x with
  | none=>cases he
  | some b=>
    dsimp only at he
    split at he
    · rename_i hb;cases he;exact⟨i,b,hi,hb.1,hb.2,rfl⟩
    · cases he
theorem locPH_none {loc : List (Option B)} {n:Nat} (h:locPH loc n=none) {i:Nat} {b:B} (hb:loc[i]?=some (some b)) (hp:b.pub=false):b.n ≠ n:=by
  intro e
  have:=List.findSome?_eq_none_iff.1 h (some b) (List.mem_of_getElem? hb)
  simp[e,hp] at this
theorem locPH_get {loc : List (Option B)} (ha:∀ (i j:Nat) (b c:B),loc[i]?=some (some b)→loc[j]?=some (some c)→b.n=c.n→i=j) {i:Nat} {b:B} (hb:loc[i]?=some (some b)) (hp:b.pub=false):locPH loc b.n=some b.obj:=by
  cases e:locPH loc b.n with
  | none=>exact absurd rfl (locPH_none e hb hp)
  | some o=>
    obtain⟨j,c,hc,hn,_,ho⟩:=locPH_some e
    have:=ha j i c b hc hb hn
    subst this
    rw[hb] at hc
    cases hc
    rw[ho]
def mem (O : PH) (loc:List (Option B)) (l:Nat) (o:Obj):PH:=ins (un (locPH loc) O) l o
structure Good (H O : PH) (loc:List (Option B)) (l:Nat):Prop where
  locs:∀ (i:Nat) (b:B),loc[i]?=some (some b)→O b.n=none∧b.n ≠ l∧(b.pub=true→H b.n=some b.obj)
  apart:∀ (i j:Nat) (b c:B),loc[i]?=some (some b)→loc[j]?=some (some c)→b.n=c.n→i=j
  lO:O l=none
theorem mem_l (O : PH) (loc:List (Option B)) (l:Nat) (o:Obj):mem O loc l o l=some o:=ins_same _ _ _
theorem mem_O {O : PH} {loc:List (Option B)} {l:Nat} {o:Obj} {H:PH} (g:Good H O loc l) {n:Nat} {x:Obj} (h:O n=some x):mem O loc l o n=some x:=by
  have hn:n ≠ l:=fun e=>by rw[e,g.lO] at h;cases h
  unfold mem
  rw[ins_ne _ _ hn]
  unfold un
  cases e:locPH loc n with
  | none=>exact h
  | some y=>
    obtain⟨i,b,hb,rfl,_,_⟩:=locPH_some e
    rw[(g.locs i b hb).1] at h
    cases h
theorem mem_loc {O : PH} {loc:List (Option B)} {l:Nat} {o:Obj} {H:PH} (g:Good H O loc l) {i:Nat} {b:B} (hb:loc[i]?=some (some b)) (hp:b.pub=false):mem O loc l o b.n=some b.obj:=by
  unfold mem
  rw[ins_ne _ _ (g.locs i b hb).2.1]
  unfold un
  rw[locPH_get g.apart hb hp]
theorem mem_none {O : PH} {loc:List (Option B)} {l:Nat} {o:Obj} {n:Nat} (h:mem O loc l o n=none):n ≠ l∧O n=none∧∀ (i:Nat) (b:B),loc[i]?=some (some b)→b.pub=false→b.n ≠ n:=by
  have hn:n ≠ l:=fun e=>by rw[e,mem_l] at h;cases h
  unfold mem at h
  rw[ins_ne _ _ hn] at h
  unfold un at h
  cases e:locPH loc n with
  | none=>rw[e] at h;exact⟨hn,h,fun i b hb hp=>locPH_none e hb hp⟩
  | some y=>rw[e] at h;cases h
theorem mem_non {O : PH} {loc:List (Option B)} {l:Nat} {o:Obj} {n:Nat} (h1:n ≠ l) (h2:O n=none) (h3:∀ (i:Nat) (b:B),loc[i]?=some (some b)→b.pub=false→b.n ≠ n):mem O loc l o n=none:=by
  unfold mem
  rw[ins_ne _ _ h1]
  unfold un
  cases e:locPH loc n with
  | none=>exact h2
  | some y=>
    obtain⟨i,b,hb,hn,hp,_⟩:=locPH_some e
    exact absurd hn (h3 i b hb hp)
theorem mem_cases {O : PH} {loc:List (Option B)} {l:Nat} {o:Obj} {n:Nat} {x:Obj} (h:mem O loc l o n=some x):(n=l∧x=o)∨O n=some x∨∃ (i:Nat) (b:B),loc[i]?=some (some b)∧b.n=n∧b.pub=false∧x=b.obj:=by
  by_cases hn:n=l
  · subst hn;rw[mem_l] at h;cases h;exact .inl ⟨rfl,rfl⟩
  · unfold mem at h
    rw[ins_ne _ _ hn] at h
    unfold un at h
    cases e:locPH loc n with
    | none=>rw[e] at h;exact .inr (.inl h)
    | some y=>rw[e] at h;cases h;exact .inr (.inr (locPH_some e))
def Iter (P : Program) (H0:PH) (f:Value) (xs:List (List Value)):Prop:=
  ∃ g first cap,f=.func (.func g) ⟨first⟩ ⟨cap⟩∧∀ (H:PH),Sub H0 H→∀ (l:Nat) (M:PH) (J:Nat→PH→PH→Prop) (Jx:PH→PH→Prop),J 0 H M→(∀ k H' H'' M',J k H' M'→Sub H' H''→J k H'' M') →
    (∀ k x,xs[k]?=some x→∀ H' M',Sub H H'→J k H' M'→Yl P l x H' M' fun v H'' M''=>(v=.bool true∧J (k+1) H'' M'')∨(v=.bool false∧Jx H'' M'')) →
    Cl P g (first++[.func (.yield l) #[] #[]]++cap) H M fun _ H' M'=>J xs.length H' M'∨Jx H' M'
def LI (cells : List (Nat × List Value)) (loc loc':List (Option B)):Prop:=∀ K,locsK cells loc K ↔ K loc'
theorem LI.of {cells : List (Nat × List Value)} {loc:List (Option B)} {K:List (Option B)→Prop} (h:locsK cells loc K):∃ loc',LI cells loc loc'∧K loc':=by
  obtain⟨f,hf⟩:=Fun.locs cells loc
  obtain⟨x,hx,hk⟩:=(hf K).1 h
  exact⟨x,fun K=>(hf K).trans (by rw[hx];simp),hk⟩
theorem LI.det {cells : List (Nat × List Value)} {loc l1 l2:List (Option B)} (h:LI cells loc l1) (k:LI cells loc l2):l1=l2:=by
  have:=(k (·=l1)).1 ((h (·=l1)).2 rfl)
  exact this.symm
def Same (loc loc' : List (Option B)):Prop:=loc.length=loc'.length∧∀ (i:Nat),(loc[i]?=some none→loc'[i]?=some none)∧∀ b:B,loc[i]?=some (some b)→∃ b':B,loc'[i]?=some (some b')∧b'.n=b.n∧b'.pub=b.pub
theorem Same.refl (loc : List (Option B)):Same loc loc:=⟨rfl,fun _=>⟨fun h=>h,fun b h=>⟨b,h,rfl,rfl⟩⟩⟩
theorem Same.trans {a b c : List (Option B)} (h:Same a b) (k:Same b c):Same a c:=⟨h.1.trans k.1,fun i=>⟨fun e=>(k.2 i).1 ((h.2 i).1 e),fun x hx=>by
  obtain⟨y,h1,h2,h3⟩:=(h.2 i).2 x hx
  obtain⟨z,h4,h5,h6⟩:=(k.2 i).2 y h1
  exact⟨z,h4,h5.trans h2,h6.trans h3⟩⟩⟩
theorem locs_same : ∀ {cells:List (Nat × List Value)} {loc:List (Option B)} {K:List (Option B)→Prop},locsK cells loc K→∃ loc',K loc'∧Same loc loc'
  | [],loc,K,h=>⟨loc,h,.refl _⟩
  | (i,cs)::l,loc,K,h=>by
    obtain⟨b,hb,h⟩:=getK_iff.1 h
    cases b with
    | none=>exact h.elim
    | some b=>
      obtain⟨n,cs0,t,pub⟩:=b
      obtain⟨hlt,h⟩:=setK_iff.1 h
      obtain⟨loc',hk,hs⟩:=locs_same h
      refine⟨loc',hk,Same.trans ?_ hs⟩
      refine⟨by simp,fun j=>?_⟩
      by_cases e:i=j
      · subst e
        rw[List.getElem?_set_self hlt]
        refine⟨(fun h=>by rw[hb] at h;cases h),fun c hc=>?_⟩
        rw[hb] at hc
        cases hc
        exact⟨_,rfl,rfl,rfl⟩
      · rw[List.getElem?_set_ne e]
        exact⟨fun h=>h,fun c hc=>⟨c,hc,rfl,rfl⟩⟩
theorem LI.same {cells : List (Nat × List Value)} {loc loc':List (Option B)} (h:LI cells loc loc'):Same loc loc':=by
  obtain⟨x,hx,hs⟩:=locs_same ((h (·=loc')).2 rfl)
  rw[← hx];exact hs
theorem Same.holds {loc loc' : List (Option B)} (h:Same loc loc') {e:En} {y:Option Value} (k:Holds loc e y):Holds loc' e y:=
  k.mono fun i x hx=>by
    cases x with
    | none=>exact .inl ((h.2 i).1 hx)
    | some b=>obtain⟨b',h1,h2,_⟩:=(h.2 i).2 b hx;exact .inr ⟨b,b',rfl,h1,h2⟩
theorem Same.back {loc loc' : List (Option B)} (h:Same loc loc') {i:Nat} {b':B} (hb:loc'[i]?=some (some b')):∃ b:B,loc[i]?=some (some b)∧b.n=b'.n∧b.pub=b'.pub:=by
  have hlt:i < loc.length:=by rw[h.1];exact (List.getElem?_eq_some_iff.1 hb).1
  cases e:loc[i]? with
  | none=>rw[List.getElem?_eq_none_iff] at e;omega
  | some x=>
    cases x with
    | none=>rw[(h.2 i).1 e] at hb;cases hb
    | some b=>
      obtain⟨c,h1,h2,h3⟩:=(h.2 i).2 b e
      rw[h1] at hb
      cases hb
      exact⟨b,rfl,h2.symm,h3.symm⟩
def putsK : List Tmp→List Value→List En→(List En→Prop)→Prop
  | [],[],env,K=>K env
  | t::ts,v::vs,env,K=>setK env t (.v v) fun env=>putsK ts vs env K
  | _,_,_,_=>False
theorem puts_ok {loc : List (Option B)}:∀ {ts:List Tmp} {vs:List Value} {env:List En} {K:List En→Prop} {tmps:Array Value},putsK ts vs env K→tmps.size=env.length→(∀ (t:Nat) (e:En),env[t]?=some e→Holds loc e tmps[t]?) →
    ∃ env',K env'∧ts.length=vs.length∧((ts.zip vs).foldl (fun (tmps:Array Value) (p:Tmp × Value)=>tmps.setIfInBounds p.1 p.2) tmps).size=env'.length ∧
      ∀ (t:Nat) (e:En),env'[t]?=some e→Holds loc e ((ts.zip vs).foldl (fun (tmps:Array Value) (p:Tmp × Value)=>tmps.setIfInBounds p.1 p.2) tmps)[t]?
  | [],[],env,K,tmps,h,hs,he=>⟨env,h,rfl,hs,he⟩
  | [],_::_,_,_,_,h,_,_=>h.elim
  | _::_,[],_,_,_,h,_,_=>h.elim
  | t::ts,v::vs,env,K,tmps,h,hs,he=>by
    obtain⟨hlt,h⟩:=setK_iff.1 h
    obtain⟨env',h1,h2,h3,h4⟩:=puts_ok (loc:=loc) (tmps:=tmps.setIfInBounds t v) h (by simp[hs]) (fun j e hj=>by
      by_cases e':t=j
      · subst e'
        rw[List.getElem?_set_self hlt] at hj
        cases hj
        rw[Array.getElem?_setIfInBounds_self_of_lt (by omega)]
        rfl
      · rw[List.getElem?_set_ne e'] at hj
        rw[Array.getElem?_setIfInBounds_ne e']
        exact he j e hj)
    exact⟨env',h1,by simp[h2],h3,h4⟩
theorem ins_ins (O : PH) (l:Nat) (o o':Obj):ins (ins O l o) l o'=ins O l o':=by
  funext n
  by_cases e:n=l
  · subst e;simp
  · rw[ins_ne _ _ e,ins_ne _ _ e,ins_ne _ _ e]
end Go.Proofs.YtgbhgfdgifkdhaaGreat.X

namespace Go.Proofs.YtgbhgfdgifkdhaaGreat.X
open Go PH
def jumpOf : Exit→Option Code
  | .ret=>some .ret
  | .exit id=>some (.exit id)
  | _=>none
section
variable {Γ : TypeId → TI} {P : Program}
structure Btw {ι : Type} (Φ:ι→PH→Prop) (cells:ι→List (Nat × List Value)) (OO:ι→PH) (loc:List (Option B)) (l:Nat) (o:Obj) (H M:PH):Prop where
  ex:∃ i loc',Φ i H∧LI (cells i) loc loc'∧M=mem (OO i) loc' l o∧Good H (OO i) loc' l
theorem Btw.up {ι : Type} {Φ:ι→PH→Prop} {cells:ι→List (Nat × List Value)} {OO:ι→PH} {loc:List (Option B)} {l:Nat} {o:Obj} {H H' M:PH} (hm:∀ i H H',Sub H H'→Φ i H→Φ i H') (hs:Sub H H') (h:Btw Φ cells OO loc l o H M):Btw Φ cells OO loc l o H' M:=by
  obtain⟨i,loc',h1,h2,h3,h4⟩:=h
  exact⟨i,loc',hm i H H' hs h1,h2,h3,fun k b hb=>⟨(h4.locs k b hb).1,(h4.locs k b hb).2.1,fun hp=>hs _ _ ((h4.locs k b hb).2.2 hp)⟩,h4.apart,h4.lO⟩
theorem W_range {pol : Tmp→Pol} {g:Operand} {ps:List Tmp} {as body:Code} {env:List En} {loc:List (Option B)} {H O:PH} {K:Exit→S→Prop} (hΓ:∀ t,TIOK P t (Γ t)) (xs:List (List Value)) (hf:evK env g fun e=>e.valK fun f=>Iter P H f xs)
    (ι:Type) (Φ:Nat→ι→PH→Prop) (Ψ:Exit→ι→PH→Prop) (cells:ι→List (Nat × List Value)) (OO:ι→PH)
    (mono:∀ k i H H',Sub H H'→Φ k i H→Φ k i H') (mono':∀ e i H H',Sub H H'→Ψ e i H→Ψ e i H')
    (h0:∃ i,Φ 0 i H∧OO i=O∧locsK (cells i) loc fun loc'=>loc'=loc)
    (round:∀ k x,xs[k]?=some x→∀ i H',Sub H H'→Φ k i H'→∀ (l:Nat) (o o':Obj),OO i l=none→locsK (cells i) loc fun loc'=>putsK ps x env fun env'=>
      codeK Γ P (some l) pol as ⟨env',loc',H',ins (OO i) l o⟩ fun e s1=>e=.normal∧match s1 with
        | ⟨env1,loc1,H1,O1⟩=>∃ O1',O1=ins O1' l o∧codeK Γ P (some l) pol body ⟨env1,loc1,H1,ins O1' l o'⟩ fun e s2=>match s2 with
          | ⟨_,loc2,H2,O2⟩=>∃ j,((e=.normal∧Φ (k+1) j H2)∨(Ψ e j H2∧(jumpOf e).isSome=true))∧OO j l=none∧O2=ins (OO j) l o'∧locsK (cells j) loc fun loc'=>leL loc2 loc' True)
    (done:∀ i H',Sub H H'→Φ xs.length i H'→locsK (cells i) loc fun loc'=>K .normal ⟨env,loc',H',OO i⟩)
    (left:∀ e i H',Sub H H'→Ψ e i H'→locsK (cells i) loc fun loc'=>K e ⟨env,loc',H',OO i⟩):W P none (.rangeFunc g ⟨ps⟩ as body) ⟨env,loc,H,O⟩ K:=by
  unfold W
  intro φ a w hr hR
  obtain⟨eg,hk,hh⟩:=evK_inv (s:=⟨env,loc,H,O⟩) hR hf
  obtain⟨g',first,cap,hga,hit⟩:=valK_inv hh hk
  refine wpIn_rangeFunc fun fn _=>?_
  let rec0:Loop:={ state:=.ready,pending:=none,fn,tmps:=a.tmps,params:=⟨ps⟩,assign:=as,body,defers:=w.heap.size }
  let l:=w.heap.size+1
  let w2:=(w.alloc (.deferred (some []))).alloc (.loop rec0)
  have hresolve:(resolve a.eval (rangeCall g l) 0).run P w2=.ok { target:=.fn (.func g') ⟨cap⟩,args:=⟨first⟩++#[.func (.yield l) #[] #[]] } w2:=by
    have e1:Array.map a.eval #[Operand.const (Value.func (Fn.yield l) #[] #[])]=#[Value.func (Fn.yield l) #[] #[]]:=by simp[Act.eval]
    simp only[resolve,rangeCall,hga,Deferred.ofValue,e1]
    rfl
  have hw2:∀ n o,w.heap[n]?=some o→w2.heap[n]?=some o:=fun n o h=>alloc_keeps _ (alloc_keeps _ h)
  have hl2:w2.heap[l]?=some (.loop rec0):=by
    have e:l=(w.alloc (.deferred (some []))).heap.size:=by simp[l]
    rw[e]
    exact alloc_new _ _
  have hd2:w2.heap[w.heap.size]?=some (.deferred (some [])):=alloc_keeps _ (alloc_new w _)
  have hlw:w.heap.size≤l:=by simp[l]
  obtain⟨i0,hΦ0,hO0,hl0⟩:=h0
  have hLI0:LI (cells i0) loc loc:=by
    obtain⟨x,h1,h2⟩:=LI.of hl0
    rw[h2] at h1;exact h1
  have hgood0:Good H O loc l:=by
    refine⟨fun i b hb=>?_,hR.apart,hR.inO.none hlw⟩
    obtain⟨h1,h2,h3,h4⟩:=hR.loc i b hb
    have:=hR.loc_lt hb
    exact⟨h2,by omega,h3⟩
  have hin2:In (mem O loc l (.loop rec0)) w2:=by
    intro n x hx
    rcases mem_cases hx with⟨rfl,rfl⟩ | hx | ⟨i,b,hb,rfl,_,rfl⟩
    · exact hl2
    · exact hw2 _ _ (hR.inO _ _ hx)
    · exact hw2 _ _ (hR.loc i b hb).1
  have hdis2:Dis H (mem O loc l (.loop rec0)):=by
    intro n
    cases e:mem O loc l (.loop rec0) n with
    | none=>exact .inr rfl
    | some x=>
      rcases mem_cases e with⟨rfl,_⟩ | hx | ⟨i,b,hb,rfl,hp,_⟩
      · exact .inl (hR.inH.none hlw)
      · exact .inl ((hR.dis n).resolve_right (by dsimp only;rw[hx];simp))
      · exact .inl ((hR.loc i b hb).2.2.2 hp).1
  have hinH2:In H w2:=fun n o h=>hw2 _ _ (hR.inH n o h)
  let J:Nat→PH→PH→Prop:=fun k=>Btw (Φ k) cells OO loc l (.loop rec0)
  let Jx:PH→PH→Prop:=fun H' M'=>∃ e c,jumpOf e=some c∧Btw (Ψ e) cells OO loc l (.loop { rec0 with state:=.done,pending:=some c }) H' M'
  have hJ0:J 0 H (mem O loc l (.loop rec0)):=⟨i0,loc,hΦ0,hLI0,by rw[hO0],by rw[hO0];exact hgood0⟩
  have hround:∀ k x,xs[k]?=some x→∀ H' M',Sub H H'→J k H' M'→Yl P l x H' M' fun v H'' M''=>(v=.bool true∧J (k+1) H'' M'')∨(v=.bool false∧Jx H'' M''):=by
    intro k x hx H' M' hs hJ
    obtain⟨i,loc',hΦ,hLI,rfl,hg⟩:=hJ
    unfold Yl
    intro v hH' hM' hd'
    have hvl:v.heap[l]?=some (.loop rec0):=hM' _ _ (mem_l _ _ _ _)
    obtain⟨env',hc,hlen,htsz,hte⟩:=puts_ok (loc:=loc') (tmps:=a.tmps) ((hLI _).1 (round k x hx i H' hs hΦ l (.loop rec0) (.loop { rec0 with state:=.busy }) hg.lO)) hR.size (fun t e he=>hLI.same.holds (hR.env t e he))
    have hry:=run_yield (P:=P) (args:=x.toArray) hvl (by simp[rec0,hlen])
    refine⟨_,_,_,_,hry,roundIn_of_wpIn (F:=wide none) trivial ?_⟩
    have htm:(rec0.params.zip x.toArray).foldl (fun (tmps:Array Value) (p:Tmp × Value)=>tmps.setIfInBounds p.1 p.2) rec0.tmps=(ps.zip x).foldl (fun (tmps:Array Value) (p:Tmp × Value)=>tmps.setIfInBounds p.1 p.2) a.tmps:=by
      rw[← Array.foldl_toList]
      simp[rec0]
    have hRr:Real ⟨v,H',mem (OO i) loc' l (.loop rec0),some l⟩ ⟨env',loc',H',ins (OO i) l (.loop rec0)⟩ { tmps:=(rec0.params.zip x.toArray).foldl (fun (tmps:Array Value) (p:Tmp × Value)=>tmps.setIfInBounds p.1 p.2) rec0.tmps,defers:=[] } v:=by
      rw[htm]
      refine⟨htsz,hte,fun j b hb=>?_,hg.apart,hH',?_,?_,Sub.refl _,?_,Frm.refl _ _,List.Pairwise.nil,(by simp)⟩
      · obtain⟨h1,h2,h3⟩:=hg.locs j b hb
        refine⟨?_,by dsimp only;rw[ins_ne _ _ h2];exact h1,h3,fun hp=>?_⟩
        · cases hp:b.pub with
          | true=>exact hH' _ _ (h3 hp)
          | false=>exact hM' _ _ (mem_loc hg hb hp)
        · have hm:=mem_loc (o:=.loop rec0) hg hb hp
          exact⟨(hd' b.n).resolve_right (by rw[hm];simp),.inr (by dsimp only;rw[hm];simp)⟩
      · intro n o hn
        by_cases e:n=l
        · subst e;dsimp only at hn;rw[ins_same] at hn;cases hn;exact hvl
        · dsimp only at hn;rw[ins_ne _ _ e] at hn;exact hM' _ _ (mem_O hg hn)
      · intro n
        by_cases e:n=l
        · subst e;exact .inl ((hd' l).resolve_right (by rw[mem_l];simp))
        · dsimp only
          rw[ins_ne _ _ e]
          cases e':OO i n with
          | none=>exact .inr rfl
          | some o=>exact .inl ((hd' n).resolve_right (by rw[mem_O hg e'];simp))
      · intro n _ hn
        obtain⟨h1,h2,h3⟩:=mem_none hn
        exact⟨rfl,by dsimp only;rw[ins_ne _ _ h1];exact h2⟩
    refine wpIn_mono (codeK_sound hΓ as _ _ hc _ _ _ rfl hRr) ?_
    rintro e a1 w3 ⟨hok,⟨env1,loc1,H1,O1⟩,⟨rfl,O1',rfl,hbody⟩,hR1⟩
    have hl3:w3.heap[l]?=some (.loop rec0):=hR1.inO l _ (ins_same _ _ _)
    refine⟨_,run_beginRound hl3 rfl,?_⟩
    have hR2:=hR1.put_own (.loop { rec0 with state:=.busy }) (ins_same _ _ _)
    dsimp only at hR2
    rw[ins_ins] at hR2
    refine wpIn_mono (codeK_sound hΓ body _ _ hbody _ _ _ rfl hR2) ?_
    rintro e a2 w4 ⟨hok2,⟨env2,loc2,H2,O2⟩,⟨j,hj,hjl,rfl,hlj⟩,hR3⟩
    have hl4:w4.heap[l]?=some (.loop { rec0 with state:=.busy }):=hR3.inO l _ (ins_same _ _ _)
    obtain⟨locj,hLIj,hlej⟩:=LI.of hlj
    obtain⟨_,hup,hlenj⟩:=leL_inv hlej
    have hgj:Good H2 (OO j) locj l:=by
      refine⟨fun q b hb=>?_,fun q q' b c hb hc=>hR3.apart q q' b c (hup q b hb) (hup q' c hc),hjl⟩
      obtain⟨h1,h2,h3,h4⟩:=hR3.loc q b (hup q b hb)
      dsimp only at h2
      have hne:b.n ≠ l:=fun e=>by rw[e,ins_same] at h2;cases h2
      rw[ins_ne _ _ hne] at h2
      exact⟨h2,hne,h3⟩
    have fin:∀ (o:Loop) (jump:Option Code),({ ({ rec0 with state:=.busy }:Loop) with state:=if jump.isNone then .ready else .done,pending:=jump }:Loop)=o →
        ∀ R:Value→PH→PH→Prop,R (.bool jump.isNone) H2 (mem (OO j) locj l (.loop o))→∃ v' w',(Instr.endRound l jump).run P w4=.ok v' w'∧∃ v'' H'' M'',Ending.returned v'=.returned v''∧Post v H' (mem (OO i) loc' l (.loop rec0)) w' H'' M''∧R v'' H'' M'':=by
      intro o jump ho R hRR
      refine⟨_,_,run_endRound jump hl4,_,H2,_,rfl,?_,hRR⟩
      rw[ho]
      have hR4:=hR3.put_own (.loop o) (ins_same _ _ _)
      dsimp only at hR4
      rw[ins_ins] at hR4
      refine⟨hR4.sub,hR4.inH,?_,?_,?_,hR4.frm⟩
      · intro n x hx
        rcases mem_cases hx with⟨rfl,rfl⟩ | hx | ⟨q,b,hb,rfl,_,rfl⟩
        · exact hR4.inO l _ (ins_same _ _ _)
        · have hn:n ≠ l:=fun e=>by rw[e,hgj.lO] at hx;cases hx
          exact hR4.inO n _ (by dsimp only;rw[ins_ne _ _ hn];exact hx)
        · exact (hR4.loc q b (hup q b hb)).1
      · intro n
        cases e:mem (OO j) locj l (.loop o) n with
        | none=>exact .inr rfl
        | some x=>
          rcases mem_cases e with⟨rfl,_⟩ | hx | ⟨q,b,hb,rfl,hp,_⟩
          · exact .inl ((hR4.dis _).resolve_right (by dsimp only;rw[ins_same];simp))
          · have hn:n ≠ l:=fun e=>by rw[e,hgj.lO] at hx;cases hx
            exact .inl ((hR4.dis n).resolve_right (by dsimp only;rw[ins_ne _ _ hn,hx];simp))
          · exact .inl ((hR4.loc q b (hup q b hb)).2.2.2 hp).1
      · intro n hn hm
        obtain⟨k1,k2⟩:=hR4.old n hn hm
        dsimp only at k1 k2
        obtain⟨m1,m2,m3⟩:=mem_none hm
        rw[ins_ne _ _ m1] at k2
        refine⟨k1,mem_non m1 k2 fun q b hb hp e=>?_⟩
        rcases ((hR4.loc q b (hup q b hb)).2.2.2 hp).2 with h | h
        · dsimp only at h;omega
        · dsimp only at h;rw[e,hm] at h;exact h rfl
    cases e with
    | normal=>
      rcases hj with⟨_,hj⟩ | ⟨_,hj⟩
      · exact fin rec0 none rfl _ (.inl ⟨rfl,j,locj,hj,hLIj,rfl,hgj⟩)
      · cases hj
    | ret=>
      rcases hj with⟨hj,_⟩ | ⟨hj,_⟩
      · cases hj
      · exact fin { rec0 with state:=.done,pending:=some .ret } (some .ret) rfl _ (.inr ⟨rfl,.ret,.ret,rfl,j,locj,hj,hLIj,rfl,hgj⟩)
    | exit id=>
      rcases hj with⟨hj,_⟩ | ⟨hj,_⟩
      · cases hj
      · exact fin { rec0 with state:=.done,pending:=some (.exit id) } (some (.exit id)) rfl _ (.inr ⟨rfl,.exit id,.exit id,rfl,j,locj,hj,hLIj,rfl,hgj⟩)
    | goto t=>
      rcases hj with⟨hj,_⟩ | ⟨_,hj⟩
      · cases hj
      · cases hj
    | panic _=>cases hok2
    | outgrown=>cases hok2
  have hcl:=hit H (Sub.refl H) l (mem O loc l (.loop rec0)) J Jx hJ0 (fun k H' H'' M' hJ hs=>hJ.up (mono k) hs) hround
  unfold Cl at hcl
  obtain⟨hent,hcl⟩:=hcl
  refine⟨l,[{ target:=.collected w.heap.size,args:=#[] }],w2,_,w2,g',(first++[Value.func (.yield l) #[] #[]]++cap).toArray,w2,?_,hresolve,fun _ _=>trivial,?_,(by intro h;cases h),?_⟩
  · exact run_enterLoop_outer fn a.tmps ⟨ps⟩ as body
  · have:=hent (first++[Value.func (.yield l) #[] #[]]++cap).toArray w2
    simp only[invoke]
    simpa using this
  refine callsIn_wide.2 ((hcl w2 hinH2 hin2 hdis2).mono ?_)
  rintro e w3 ⟨v,H',M',rfl,hp,hq⟩
  have fin:∀ (i:ι) (loc':List (Option B)) (o:Loop),o.state ≠ .busy→LI (cells i) loc loc'→M'=mem (OO i) loc' l (.loop o)→Good H' (OO i) loc' l →
      (Instr.endLoop l).run P w3=.ok o.pending (w3.putObj l (.loop { o with state:=.exhausted })) ∧
      Real φ ⟨env,loc',H',OO i⟩ { a with defers:=[{ target:=.collected w.heap.size,args:=#[] }]++a.defers } (w3.putObj l (.loop { o with state:=.exhausted })):=by
    intro i loc' o ho hLI hM hg
    have hl3:w3.heap[l]?=some (.loop o):=hp.inM _ _ (by rw[hM];exact mem_l _ _ _ _)
    refine⟨run_endLoop hl3 ho,?_⟩
    have hne:∀ {n:Nat},n ≠ l→(w3.putObj l (.loop { o with state:=.exhausted })).heap[n]?=w3.heap[n]?:=fun h=>World.putObj_heap_other h
    have hHl:H' l=none:=(hp.dis l).resolve_right (by rw[hM,mem_l];simp)
    have hM0:∀ n,n < w.heap.size→O n=none→(∀ (q:Nat) (b:B),loc[q]?=some (some b)→b.pub=false→b.n ≠ n)→mem O loc l (.loop rec0) n=none:=fun n hn h1 h2=>mem_non (by omega) h1 h2
    have hold:∀ n,n < w.heap.size→O n=none→(∀ (q:Nat) (b:B),loc[q]?=some (some b)→b.pub=false→b.n ≠ n)→w3.heap[n]?=w.heap[n]?∧H' n=H n∧M' n=none:=by
      intro n hn h1 h2
      have hm:=hM0 n hn h1 h2
      have hn2:n < w2.heap.size:=by simp[w2];omega
      refine⟨(hp.frm.block n hn2 hm).trans ?_,hp.old n hn2 hm⟩
      have:=Array.getElem?_eq_getElem hn
      rw[this]
      exact hw2 n _ this
    have hφ:∀ n,n < φ.w.heap.size→φ.M n=none→O n=none∧∀ (q:Nat) (b:B),loc[q]?=some (some b)→b.pub=false→b.n ≠ n:=by
      intro n hn hm
      refine⟨(hR.old n hn hm).2,fun q b hb hp' e=>?_⟩
      rcases ((hR.loc q b hb).2.2.2 hp').2 with h | h
      · omega
      · rw[e] at h;exact h hm
    have hsz:=hR.frm.size
    refine⟨hR.size,fun t e he=>hLI.same.holds (hR.env t e he),fun q b hb=>?_,hg.apart,?_,?_,?_,hR.sub.trans hp.sub,?_,?_,?_,?_⟩
    · obtain⟨h1,h2,h3⟩:=hg.locs q b hb
      obtain⟨b0,hb0,hbn,hbp⟩:=hLI.same.back hb
      refine⟨(hne h2).trans ?_,h1,h3,fun hpb=>⟨?_,?_⟩⟩
      · cases hpb:b.pub with
        | true=>exact hp.inH _ _ (h3 hpb)
        | false=>exact hp.inM _ _ (by rw[hM];exact mem_loc hg hb hpb)
      · exact (hp.dis b.n).resolve_right (by rw[hM,mem_loc hg hb hpb];simp)
      · rw[← hbn]
        exact ((hR.loc q b0 hb0).2.2.2 (hbp.trans hpb)).2
    · intro n x hn
      exact (hne (fun e=>by dsimp only at hn;rw[e,hHl] at hn;cases hn)).trans (hp.inH n x hn)
    · intro n x hn
      have hnl:n ≠ l:=fun e=>by dsimp only at hn;rw[e,hg.lO] at hn;cases hn
      exact (hne hnl).trans (hp.inM n x (by rw[hM];exact mem_O hg hn))
    · intro n
      dsimp only
      cases e:OO i n with
      | none=>exact .inr rfl
      | some x=>exact .inl ((hp.dis n).resolve_right (by rw[hM,mem_O hg e];simp))
    · intro n hn hm
      obtain⟨h1,h2⟩:=hφ n hn hm
      obtain⟨k1,k2,k3⟩:=hold n (by omega) h1 h2
      rw[hM] at k3
      exact⟨k2.trans (hR.old n hn hm).1,(mem_none k3).2.1⟩
    · refine⟨hp.frm.os.trans hR.frm.os,hp.frm.tape.trans hR.frm.tape,hp.frm.output.trans hR.frm.output,?_,fun n hn hm=>?_⟩
      · have h1:=hp.frm.size
        simp[w2] at h1 ⊢
        omega
      · obtain⟨h1,h2⟩:=hφ n hn hm
        obtain⟨k1,_,_⟩:=hold n (by omega) h1 h2
        exact (hne (by omega)).trans (k1.trans (hR.frm.block n hn hm))
    · refine List.pairwise_cons.2 ⟨fun d hd q hq e=>?_,hR.uniq⟩
      obtain⟨q',q1,q2,_⟩:=hR.marks d hd
      rw[q1] at e
      cases e
      cases hq
      have:=(Array.getElem?_eq_some_iff.1 q2).1
      omega
    · intro d hd
      rcases List.mem_append.1 hd with hd | hd
      · simp only[List.mem_singleton] at hd
        subst hd
        have hO2:O w.heap.size=none:=hR.inO.none (Nat.le_refl _)
        have hm:mem O loc l (.loop rec0) w.heap.size=none:=mem_non (by simp[l]) hO2 fun q b hb _ e=>by have:=hR.loc_lt hb;omega
        have hn2:w.heap.size < w2.heap.size:=by simp[w2];omega
        obtain⟨k1,k2⟩:=hp.old _ hn2 hm
        rw[hM] at k2
        obtain⟨m1,m2,m3⟩:=mem_none k2
        refine⟨w.heap.size,rfl,(hne (by simp[l])).trans ((hp.frm.block _ hn2 hm).trans hd2),hsz,k1.trans (hR.inH.none (Nat.le_refl _)),m2,fun q b hb e=>?_⟩
        obtain⟨b0,hb0,hbn,_⟩:=hLI.same.back hb
        have:=hR.loc_lt hb0
        omega
      · obtain⟨q,q1,q2,q3,q4,q5,q6⟩:=hR.marks d hd
        have hq:=(Array.getElem?_eq_some_iff.1 q2).1
        obtain⟨k1,k2,k3⟩:=hold q hq q5 (fun q' b hb _=>q6 q' b hb)
        rw[hM] at k3
        refine⟨q,q1,(hne (by omega)).trans (k1.trans q2),q3,k2.trans q4,(mem_none k3).2.1,fun q' b hb e=>?_⟩
        obtain⟨b0,hb0,hbn,_⟩:=hLI.same.back hb
        exact q6 q' b0 hb0 (hbn.trans e)
  rcases hq with⟨i,loc',hΦ,hLI,hM,hg⟩ | ⟨e,c,hc,i,loc',hΨ,hLI,hM,hg⟩
  · obtain⟨h1,h2⟩:=fin i loc' rec0 (by simp[rec0]) hLI hM hg
    exact⟨_,_,h1,rfl,_,(hLI _).1 (done i H' hp.sub hΦ),h2⟩
  · obtain⟨h1,h2⟩:=fin i loc' _ (by simp) hLI hM hg
    refine⟨_,_,h1,?_⟩
    have hk:=(hLI _).1 (left e i H' hp.sub hΨ)
    cases e with
    | ret=>cases hc;exact wpIn_ret ⟨rfl,_,hk,h2⟩
    | exit id=>cases hc;exact wpIn_exit ⟨rfl,_,hk,h2⟩
    | normal=>cases hc
    | goto _=>cases hc
    | panic _=>cases hc
    | outgrown=>cases hc
end
end Go.Proofs.YtgbhgfdgifkdhaaGreat.X

namespace Go.Proofs.YtgbhgfdgifkdhaaGreat.X
open Go PH
section
variable {Γ : TypeId → TI} {P : Program} {r : Option Nat}
theorem W_post {c : Code} {s:S} {K K2:Exit→S→Prop} (h:W P r c s K2) (k:∀ e s' (φ:Fr) (a:Act) (w:World),K2 e s'→Real φ s' a w→∃ s'',K e s''∧Real φ s'' a w):W P r c s K:=by
  unfold W at *
  intro φ a w hr hR
  refine wpIn_mono (h φ a w hr hR) ?_
  rintro e a' w' ⟨hok,s',hk,hR'⟩
  obtain⟨s'',h1,h2⟩:=k e s' φ a' w' hk hR'
  exact⟨hok,s'',h1,h2⟩
theorem W_loopX {pol : Tmp→Pol} {c:Code} {env:List En} {loc:List (Option B)} {H O:PH} {K:Exit→S→Prop} (hΓ:∀ t,TIOK P t (Γ t)) (ι:Type) (Φ:ι→Prop) (μ:ι→Nat) (X:Exit→ι→Prop)
    (vals:ι→List (Nat × En)) (cells:ι→List (Nat × List Value)) (HH OO:ι→PH)
    (h0:∃ i,Φ i∧HH i=H∧OO i=O∧invK c env loc (vals i) (cells i) fun p=>match p with
      | (env',loc')=>leK env env' loc loc')
    (hb:∀ i,Φ i→invK c env loc (vals i) (cells i) fun p=>match p with
      | (env',loc')=>codeK Γ P r pol c ⟨env',loc',HH i,OO i⟩ fun e s'=>match e with
        | .normal=>∃ j,Φ j∧μ j < μ i∧match s' with
          | ⟨e',l',H',O'⟩=>HH j=H'∧OO j=O'∧invK c env loc (vals j) (cells j) fun p=>match p with
            | (e'',l'')=>leK e' e'' l' l''
        | e=>K e s'∨∃ j,X e j∧match s' with
          | ⟨e',l',H',O'⟩=>HH j=H'∧OO j=O'∧invK c env loc (vals j) (cells j) fun p=>match p with
            | (e'',l'')=>leK e' e'' l' l'')
    (hx:∀ e i,X e i→invK c env loc (vals i) (cells i) fun p=>match p with
      | (env',loc')=>K e ⟨env',loc',HH i,OO i⟩):W P r (.loop c) ⟨env,loc,H,O⟩ K:=by
  refine W_post (W_loop (pol:=pol) (K:=fun e s'=>K e s'∨∃ j,X e j∧match s' with
          | ⟨e',l',H',O'⟩=>HH j=H'∧OO j=O'∧invK c env loc (vals j) (cells j) fun p=>match p with
            | (e'',l'')=>leK e' e'' l' l'') hΓ ι Φ μ vals cells HH OO h0 hb) ?_
  rintro e ⟨e',l',H',O'⟩ φ a w (hk | ⟨j,hX,rfl,rfl,hi⟩) hR
  · exact⟨_,hk,hR⟩
  · obtain⟨f,hf⟩:=Fun.inv c env loc (vals j) (cells j)
    obtain⟨⟨env1,loc1⟩,h1,h2⟩:=(hf _).1 hi
    obtain⟨⟨env2,loc2⟩,h3,h4⟩:=(hf _).1 (hx e j hX)
    rw[h1] at h3
    cases h3
    exact⟨_,h4,hR.weaken h2⟩
end
end Go.Proofs.YtgbhgfdgifkdhaaGreat.X

namespace Go.Proofs.YtgbhgfdgifkdhaaGreat.X
open Go PH
structure Repart (H M H' M' : PH):Prop where
  sub:Sub H H'
  own:Sub M' M
  from_:∀ n o,H' n=some o→H n=some o∨M n=some o
  dis:Dis H' M'
theorem Cl.repart {P : Program} {f:FuncId} {args:List Value} {H M:PH} {Q Q':Value→PH→PH→Prop} (h:Cl P f args H M Q)
    (k:∀ v H' M',Sub H H'→Dis H' M'→Q v H' M'→∃ H'' M'',Repart H' M' H'' M''∧Q' v H'' M''):Cl P f args H M Q':=by
  unfold Cl at *
  refine⟨h.1,fun w hH hM hd=>(h.2 w hH hM hd).mono ?_⟩
  rintro e w' ⟨v,H',M',he,p,hq⟩
  obtain⟨H'',M'',r,hq'⟩:=k v H' M' p.sub p.dis hq
  refine⟨v,H'',M'',he,⟨p.sub.trans r.sub,fun n o hn=>(r.from_ n o hn).elim (p.inH n o) (p.inM n o),In.sub p.inM r.own,r.dis,fun n hn hm=>?_,p.frm⟩,hq'⟩
  obtain⟨h1,h2⟩:=p.old n hn hm
  constructor
  · cases e:H'' n with
    | none=>
      cases e':H' n with
      | none=>rw[← h1,e']
      | some o=>rw[r.sub n o e'] at e;cases e
    | some o=>
      rcases r.from_ n o e with h | h
      · rw[← h1,h]
      · rw[h2] at h;cases h
  · cases e:M'' n with
    | none=>rfl
    | some o=>rw[r.own n o e] at h2;cases h2
theorem Repart.one {H M : PH} {b:Nat} {o:Obj} (hd:Dis H M) (hb:M b=some o):Repart H M (ins H b o) (del M b):=by
  have hH:H b=none:=(hd b).resolve_right (by rw[hb];simp)
  refine⟨sub_ins H o hH,fun n o' hn=>?_,fun n o' hn=>?_,fun n=>?_⟩
  · by_cases e:n=b
    · subst e;rw[del_same] at hn;cases hn
    · rw[del_ne _ e] at hn;exact hn
  · by_cases e:n=b
    · subst e;rw[ins_same] at hn;cases hn;exact .inr hb
    · rw[ins_ne _ _ e] at hn;exact .inl hn
  · by_cases e:n=b
    · subst e;exact .inr (del_same _ _)
    · rw[ins_ne _ _ e,del_ne _ e];exact hd n
theorem Repart.refl {H M : PH} (hd:Dis H M):Repart H M H M:=⟨Sub.refl _,Sub.refl _,fun _ _ h=>.inl h,hd⟩
theorem Repart.trans {A B C D E F : PH} (h:Repart A B C D) (k:Repart C D E F):Repart A B E F:=
  ⟨h.sub.trans k.sub,k.own.trans h.own,fun n o hn=>(k.from_ n o hn).elim (h.from_ n o) (fun h'=>.inr (h.own n o h')),k.dis⟩
theorem Repart.all {H M : PH} (hd:Dis H M):Repart H M (un H M) emp:=by
  refine⟨fun n o hn=>by simp[un,hn],(fun n o hn=>by cases hn),fun n o hn=>?_,.emp _⟩
  unfold un at hn
  split at hn
  · rename_i e;cases hn;exact .inl e
  · exact .inr hn
theorem Cl.share {P : Program} {f:FuncId} {args:List Value} {H R:PH} {Q:Value→Prop} (h:Cl P f args (un H R) emp fun v _ _=>Q v):Cl P f args H R fun v H' M'=>Sub R M'∧Q v:=by
  unfold Cl at *
  refine⟨h.1,fun w hH hM hd=>(h.2 w (fun n o hn=>?_) (fun n o hn=>by cases hn) (.emp _)).mono ?_⟩
  · unfold un at hn
    split at hn
    · rename_i e;cases hn;exact hH _ _ e
    · exact hM _ _ hn
  rintro e w' ⟨v,H',M',he,p,hq⟩
  have hRn:∀ n o,R n=some o→H n=none:=fun n o hn=>(hd n).resolve_right (by rw[hn];simp)
  have hun:∀ n o,R n=some o→H' n=some o:=fun n o hn=>p.sub n o (by simp[un,hRn n o hn,hn])
  refine⟨v,fun n=>match R n with | some _=>none | none=>H' n,fun n=>match R n with | some o=>some o | none=>M' n,he,⟨?_,?_,?_,?_,?_,?_⟩,?_,hq⟩
  · intro n o hn
    dsimp only
    cases e':R n with
    | none=>exact p.sub n o (by simp[un,hn])
    | some o'=>rw[hRn n o' e'] at hn;cases hn
  · intro n o hn
    dsimp only at hn
    cases e':R n with
    | none=>rw[e'] at hn;exact p.inH n o hn
    | some o'=>rw[e'] at hn;cases hn
  · intro n o hn
    dsimp only at hn
    cases e':R n with
    | none=>rw[e'] at hn;exact p.inM n o hn
    | some o'=>rw[e'] at hn;cases hn;exact p.inH n o (hun n o e')
  · intro n
    dsimp only
    cases e':R n with
    | none=>exact p.dis n
    | some o'=>exact .inl rfl
  · intro n hn hm
    simp only[hm]
    obtain⟨h1,h2⟩:=p.old n hn rfl
    refine⟨?_,h2⟩
    rw[h1]
    unfold un
    cases H n with
    | none=>exact hm
    | some o=>rfl
  · exact p.frm.mono fun n _ _=>rfl
  · intro n o hn
    simp[hn]
end Go.Proofs.YtgbhgfdgifkdhaaGreat.X

namespace Go.Proofs.YtgbhgfdgifkdhaaGreat.X
open Go PH
def OwnS (O : PH) (sz:Nat) (t:TypeId) (v:Value) (xs:List (List Value)):Prop:=
  (∀ x∈xs,x.length=sz)∧((v=.slice none 0 0∧xs=[])∨∃ b cap spare,v=.slice (some ⟨b,0,none⟩) xs.length cap∧O b=some (.cells ⟨xs.flatten++spare⟩ t (0,0))∧xs.length≤cap∧spare.length=(cap - xs.length)*sz)
theorem flat_length {sz : Nat}:∀ {xs:List (List Value)},(∀ x∈xs,x.length=sz)→xs.flatten.length=xs.length*sz
  | [],_=>by simp
  | x::xs,h=>by
    rw[List.flatten_cons,List.length_append,h x (by simp),flat_length (xs:=xs) fun y hy=>h y (by simp[hy]),List.length_cons,Nat.succ_mul,Nat.add_comm]
theorem append_one {H O : PH} {t:TypeId} {sz by_:Nat} {z:List Value} {s x:Value} {K:Value→PH→Prop} {xs:List (List Value)} {y:List Value} (hs:OwnS O sz t s xs) (hz:z.length=sz) (hy:y.length=sz) (hone:∀ v∈y,v.oneCell'=true)
    (hx:∃ b c cap,x=.slice (some b) 1 cap∧c=y∧Rd H O b sz c) (hb:(xs.length+1)*(by_+1)≤140737488355328)
    (k:∀ v O',OwnS O' sz t v (xs++[y])→(∀ n,O n=none→O' n ≠ none→H n=none)→K v O'):appendK H O t sz by_ z s x K:=by
  obtain⟨bx,c,capx,rfl,rfl,hrd⟩:=hx
  obtain⟨hlen,hs⟩:=hs
  have hfl:=flat_length hlen
  have hlen':∀ x∈xs++[c],x.length=sz:=by
    intro x hx
    rcases List.mem_append.1 hx with h | h
    · exact hlen x h
    · simp at h;rw[h];exact hy
  have hfl':(xs++[c]).flatten=xs.flatten++c:=by simp
  unfold appendK
  have key:∀ (b:Nat) (cap:Nat),H b=none→O b=none→xs.length+1≤cap→K (.slice (some ⟨b,0,none⟩) (xs.length+1) cap) (ins O b (.cells ⟨xs.flatten++c++(List.replicate (cap - (xs.length+1)) z).flatten⟩ t (0,0))):=by
    intro b cap hb1 hb2 hcap
    refine k _ _ ⟨hlen',.inr ⟨b,cap,(List.replicate (cap - (xs.length+1)) z).flatten,by simp,by rw[ins_same,hfl'],by simpa using hcap,?_⟩⟩ (fun n hn hn'=>?_)
    · rw[List.length_flatten];simp[hz]
    · by_cases e:n=b
      · rw[e];exact hb1
      · rw[ins_ne _ _ e] at hn';exact absurd hn hn'
  rcases hs with⟨rfl,rfl⟩ | ⟨b,cap,spare,rfl,hO,hcap,hsp⟩
  · refine⟨none,0,0,some bx,1,capx,c,rfl,rfl,by rw[hy,Nat.one_mul],hone,(fun h=>by cases h),fun a ha _=>?_,by simpa using hb,hz,(fun h=>by cases h),fun _ h=>by omega,fun _=>⟨[],by simp,fun _=>rfl,(fun a h=>by cases h),fun b cap h1 h2 h3=>?_⟩⟩
    · cases ha;rw[Nat.one_mul];exact hrd
    · have:=key b cap h1 h2 (by simpa using h3)
      simpa using this
  · refine⟨some ⟨b,0,none⟩,xs.length,cap,some bx,1,capx,c,rfl,rfl,by rw[hy,Nat.one_mul],hone,(fun h=>by cases h),fun a ha _=>?_,hb,hz,(fun h=>by cases h),fun _ h=>⟨b,0,_,t,rfl,hO,?_,?_⟩,fun h=>⟨xs.flatten,hfl,(fun h=>by cases h),fun a ha=>?_,fun b' cap' h1 h2 h3=>key b' cap' h1 h2 h3⟩⟩
    · cases ha;rw[Nat.one_mul];exact hrd
    · rw[List.length_append,hfl,hsp,Nat.zero_add,← Nat.add_mul,← Nat.add_mul]
      exact Nat.mul_le_mul_right _ (by omega)
    · have e1:(xs.flatten++spare).take (0+xs.length*sz)=xs.flatten:=by rw[Nat.zero_add,← hfl];simp
      have e2:(xs.flatten++spare).drop (0+xs.length*sz+1*sz)=spare.drop sz:=by
        rw[Nat.zero_add,Nat.one_mul,← List.drop_drop,← hfl];simp
      rw[e1,e2]
      refine k _ _ ⟨hlen',.inr ⟨b,cap,spare.drop sz,by simp,by rw[ins_same,hfl'],by simpa using h,?_⟩⟩ (fun n hn hn'=>?_)
      · rw[List.length_drop,hsp,List.length_append,List.length_singleton]
        rw[show cap - xs.length=(cap - (xs.length+1))+1 by omega,Nat.succ_mul]
        omega
      · by_cases e:n=b
        · rw[e] at hn;rw[hO] at hn;cases hn
        · rw[ins_ne _ _ e] at hn';exact absurd hn hn'
    · cases ha
      refine⟨rfl,hfl,_,t,(0,0),.inr hO,?_⟩
      dsimp only
      rw[List.drop_zero,← hfl]
      simp
end Go.Proofs.YtgbhgfdgifkdhaaGreat.X

namespace Go.Proofs.YtgbhgfdgifkdhaaGreat.X
open Go PH
theorem append_many {H O : PH} {t:TypeId} {sz by_:Nat} {z:List Value} {s x:Value} {K:Value→PH→Prop} {xs ys:List (List Value)} (hs:OwnS O sz t s xs) (hz:z.length=sz) (hys:∀ y∈ys,y.length=sz) (hone:∀ v∈ys.flatten,v.oneCell'=true)
    (hx:∃ src cap,x=.slice src ys.length cap∧(src=none→ys=[])∧∀ a,src=some a→0 < ys.length→Rd H O a (ys.length*sz) ys.flatten) (hb:(xs.length+ys.length)*(by_+1)≤140737488355328)
    (k:∀ v O',OwnS O' sz t v (xs++ys)→(∀ n,O n=none→O' n ≠ none→H n=none)→K v O'):appendK H O t sz by_ z s x K:=by
  obtain⟨src,capx,rfl,hsrc,hrd⟩:=hx
  obtain⟨hlen,hs⟩:=hs
  have hfl:=flat_length hlen
  have hfy:=flat_length hys
  have hlen':∀ x∈xs++ys,x.length=sz:=by
    intro x hx
    rcases List.mem_append.1 hx with h | h
    · exact hlen x h
    · exact hys x h
  have hfl':(xs++ys).flatten=xs.flatten++ys.flatten:=by simp
  have hnil:ys.length=0→ys=[]:=by simp
  unfold appendK
  have key:∀ (b:Nat) (cap:Nat),H b=none→O b=none→xs.length+ys.length≤cap→K (.slice (some ⟨b,0,none⟩) (xs.length+ys.length) cap) (ins O b (.cells ⟨xs.flatten++ys.flatten++(List.replicate (cap - (xs.length+ys.length)) z).flatten⟩ t (0,0))):=by
    intro b cap hb1 hb2 hcap
    refine k _ _ ⟨hlen',.inr ⟨b,cap,(List.replicate (cap - (xs.length+ys.length)) z).flatten,by simp,by rw[ins_same,hfl'],by simpa using hcap,?_⟩⟩ (fun n hn hn'=>?_)
    · rw[List.length_flatten];simp[hz]
    · by_cases e:n=b
      · rw[e];exact hb1
      · rw[ins_ne _ _ e] at hn';exact absurd hn hn'
  have same:∀ v,ys.length=0→OwnS O sz t v xs→K v O:=by
    intro v h0 h
    have:=hnil h0
    subst this
    exact k v O (by simpa using h) (fun n h1 h2=>absurd h1 h2)
  rcases hs with⟨rfl,rfl⟩ | ⟨b,cap,spare,rfl,hO,hcap,hsp⟩
  · refine⟨none,0,0,src,ys.length,capx,ys.flatten,rfl,rfl,hfy,hone,fun h=>by rw[hsrc h];rfl,hrd,by simpa using hb,hz,fun h0 _=>same _ h0 ⟨by simp,.inl ⟨rfl,rfl⟩⟩,fun _ h=>by omega,fun _=>⟨[],by simp,fun _=>rfl,(fun a h=>by cases h),fun b cap h1 h2 h3=>?_⟩⟩
    have:=key b cap h1 h2 (by simpa using h3)
    simpa using this
  · refine⟨some ⟨b,0,none⟩,xs.length,cap,src,ys.length,capx,ys.flatten,rfl,rfl,hfy,hone,fun h=>by rw[hsrc h];rfl,hrd,hb,hz,fun h0 _=>same _ h0 ⟨hlen,.inr ⟨b,cap,spare,rfl,hO,hcap,hsp⟩⟩,fun _ h=>⟨b,0,_,t,rfl,hO,?_,?_⟩,fun h=>⟨xs.flatten,hfl,(fun h=>by cases h),fun a ha=>?_,fun b' cap' h1 h2 h3=>key b' cap' h1 h2 h3⟩⟩
    · rw[List.length_append,hfl,hsp,Nat.zero_add,← Nat.add_mul,← Nat.add_mul]
      exact Nat.mul_le_mul_right _ (by omega)
    · have e1:(xs.flatten++spare).take (0+xs.length*sz)=xs.flatten:=by rw[Nat.zero_add,← hfl];simp
      have e2:(xs.flatten++spare).drop (0+xs.length*sz+ys.length*sz)=spare.drop (ys.length*sz):=by
        rw[Nat.zero_add,← List.drop_drop,← hfl];simp
      rw[e1,e2]
      refine k _ _ ⟨hlen',.inr ⟨b,cap,spare.drop (ys.length*sz),by simp,by rw[ins_same,hfl'],by simpa using h,?_⟩⟩ (fun n hn hn'=>?_)
      · rw[List.length_drop,hsp,List.length_append,← Nat.sub_mul]
        congr 1
        omega
      · by_cases e:n=b
        · rw[e] at hn;rw[hO] at hn;cases hn
        · rw[ins_ne _ _ e] at hn';exact absurd hn hn'
    · cases ha
      refine⟨rfl,hfl,_,t,(0,0),.inr hO,?_⟩
      dsimp only
      rw[List.drop_zero,← hfl]
      simp
end Go.Proofs.YtgbhgfdgifkdhaaGreat.X

namespace Go.Proofs.YtgbhgfdgifkdhaaGreat.X
open Go PH
theorem Cl.lend {P : Program} {f:FuncId} {args:List Value} {H R M:PH} {Q:Value→PH→PH→Prop} (h:Cl P f args (un H R) M Q) (hRM:Dis R M) :
    Cl P f args H (un R M) fun v H' O'=>∃ H1 M1,Q v H1 M1∧Sub (un H R) H1∧(∀ n,R n=none→H' n=H1 n)∧O'=un R M1∧Dis R M1:=by
  unfold Cl at *
  refine⟨h.1,fun w hH hO hd=>?_⟩
  have hR:∀ n o,R n=some o→un R M n=some o:=fun n o hn=>by simp[un,hn]
  have hRn:∀ n o,R n=some o→H n=none:=fun n o hn=>(hd n).resolve_right (by rw[hR n o hn];simp)
  have hMn:∀ n o,M n=some o→un R M n=some o:=fun n o hn=>by
    have:R n=none:=(hRM n).resolve_right (by rw[hn];simp)
    simp[un,this,hn]
  refine (h.2 w (fun n o hn=>?_) (fun n o hn=>hO n o (hMn n o hn)) (fun n=>?_)).mono ?_
  · unfold un at hn
    split at hn
    · rename_i e;cases hn;exact hH _ _ e
    · exact hO _ _ (hR n o hn)
  · cases e:M n with
    | none=>exact .inr rfl
    | some o=>
      have h1:R n=none:=(hRM n).resolve_right (by rw[e];simp)
      have h2:H n=none:=(hd n).resolve_right (by rw[hMn n o e];simp)
      exact .inl (by simp[un,h1,h2])
  rintro e w' ⟨v,H1,M1,he,p,hq⟩
  have hR1:∀ n o,R n=some o→H1 n=some o:=fun n o hn=>p.sub n o (by simp[un,hRn n o hn,hn])
  have hdis:Dis R M1:=fun n=>by
    cases e':R n with
    | none=>exact .inl rfl
    | some o=>exact .inr ((p.dis n).resolve_left (by rw[hR1 n o e'];simp))
  refine⟨v,fun n=>match R n with | some _=>none | none=>H1 n,un R M1,he,⟨?_,?_,?_,?_,?_,?_⟩,H1,M1,hq,p.sub,fun n hn=>by simp[hn],rfl,hdis⟩
  · intro n o hn
    dsimp only
    cases e':R n with
    | none=>exact p.sub n o (by simp[un,hn])
    | some o'=>rw[hRn n o' e'] at hn;cases hn
  · intro n o hn
    dsimp only at hn
    cases e':R n with
    | none=>rw[e'] at hn;exact p.inH n o hn
    | some o'=>rw[e'] at hn;cases hn
  · intro n o hn
    unfold un at hn
    split at hn
    · rename_i e';cases hn;exact p.inH n _ (hR1 n _ e')
    · exact p.inM n o hn
  · intro n
    dsimp only
    cases e':R n with
    | some o'=>exact .inl rfl
    | none=>
      dsimp only
      have:un R M1 n=M1 n:=by simp[un,e']
      rw[this]
      exact p.dis n
  · intro n hn hm
    have h1:R n=none:=by
      cases e':R n with
      | none=>rfl
      | some o=>rw[hR n o e'] at hm;cases hm
    have h2:M n=none:=by
      cases e':M n with
      | none=>rfl
      | some o=>rw[hMn n o e'] at hm;cases hm
    obtain⟨h3,h4⟩:=p.old n hn h2
    have h5:un H R n=H n:=by
      unfold un
      cases e':H n with
      | none=>exact h1
      | some o=>rfl
    refine⟨?_,by simp[un,h1,h4]⟩
    simp only[h1]
    rw[h3,h5]
  · exact p.frm.mono fun n _ hm=>by
      cases e':M n with
      | none=>rfl
      | some o=>rw[hMn n o e'] at hm;cases hm
theorem Cl.share' {P : Program} {f:FuncId} {args:List Value} {H R:PH} {Q:Value→Prop} (he:Ent P f) (h:Dis H R→Cl P f args (un H R) emp fun v _ _=>Q v):Cl P f args H R fun v H' M'=>Sub R M'∧Q v:=by
  by_cases hd:Dis H R
  · exact (h hd).share
  · unfold Cl
    exact⟨he,fun w _ _ hd'=>absurd hd' hd⟩
theorem Cl.ent {P : Program} {f:FuncId} {args:List Value} {H M:PH} {Q:Value→PH→PH→Prop} (h:Cl P f args H M Q):Ent P f:=by
  unfold Cl at h
  exact h.1
end Go.Proofs.YtgbhgfdgifkdhaaGreat.X

namespace Go.Proofs.YtgbhgfdgifkdhaaGreat.X
open Go PH
section
variable {Γ : TypeId → TI} {P : Program} {r : Option Nat}
def rounds (Γ : TypeId→TI) (P:Program) (r:Option Nat) (pol:Tmp→Pol) (c:Code) (K:Exit→S→Prop):Nat→S→Prop
  | 0,_=>False
  | m+1,s=>codeK Γ P r pol c s fun e s'=>match e with
    | .normal=>rounds Γ P r pol c K m s'
    | e=>K e s'
theorem W_rounds {pol : Tmp→Pol} {c:Code} {s:S} {K:Exit→S→Prop} (hΓ:∀ t,TIOK P t (Γ t)) (m:Nat) (h:rounds Γ P r pol c K m s):W P r (.loop c) s K:=by
  unfold W
  intro φ a w hr hR b k cs hro hb' hrm
  have key:∀ m s a w,rounds Γ P r pol c K m s→Real φ s a w→∃ e a' w',PostOf φ K e a' w'∧ArrivesIn (Machine.fenced P (wide r)) P (lone (b.atR a (.code c::.inLoop c::k)) cs w) b k cs e a' w':=by
    intro m
    induction m with
    | zero=>intro s a w h;exact h.elim
    | succ m ih=>
      intro s a w h hR
      obtain⟨e,a₁,w₁,⟨hok,s₁,hk,hR₁⟩,harr⟩:=codeK_sound hΓ c _ _ h φ a w hr hR b (.inLoop c::k) cs hro hb' hrm
      cases e with
      | normal=>
        obtain⟨e₂,a₂,w₂,hq₂,harr₂⟩:=ih s₁ a₁ w₁ hk hR₁
        exact⟨e₂,a₂,w₂,hq₂,.of_steps (StepsIn.trans harr (.one (fenced_calm hb' hrm rfl) stepR_inLoop)) harr₂⟩
      | exit id=>exact⟨_,a₁,w₁,⟨hok,s₁,hk,hR₁⟩,.pass (x:=.inLoop c) rfl (fun _ _=>.inl (by simp)) harr⟩
      | goto l=>exact⟨_,a₁,w₁,⟨hok,s₁,hk,hR₁⟩,.pass (x:=.inLoop c) rfl (fun _ _=>.inl (by simp)) harr⟩
      | ret=>exact⟨_,a₁,w₁,⟨hok,s₁,hk,hR₁⟩,.pass (x:=.inLoop c) rfl (fun _ _=>.inl (by simp)) harr⟩
      | panic ch=>cases hok
      | outgrown=>cases hok
  obtain⟨e,a',w',hq,harr⟩:=key m s a w h hR
  exact⟨e,a',w',hq,.of_steps (.one (fenced_calm hb' hrm rfl) stepR_loop) harr⟩
end
end Go.Proofs.YtgbhgfdgifkdhaaGreat.X

namespace Go.Proofs.YtgbhgfdgifkdhaaGreat.X
open Go PH
theorem Cl.pub {P : Program} {f:FuncId} {args:List Value} {H O:PH} {Q:Value→PH→PH→Prop} {b:Nat} {o:Obj} (hb:O b=some o) (h:H b=none→Cl P f args (ins H b o) (del O b) Q) (he:Ent P f):Cl P f args H O Q:=by
  unfold Cl at *
  refine⟨he,fun w hH hO hd=>?_⟩
  have hHb:H b=none:=(hd b).resolve_right (by rw[hb];simp)
  have rp:=Repart.one hd hb
  refine ((h hHb).2 w (fun n o' hn=>(rp.from_ n o' hn).elim (hH n o') (hO n o')) (In.sub hO rp.own) rp.dis).mono ?_
  rintro e w' ⟨v,H2,M2,he,p,hq⟩
  have hdel:∀ n,O n=none→del O b n=none:=fun n hn=>by
    unfold del
    split
    · rfl
    · exact hn
  refine⟨v,H2,M2,he,⟨rp.sub.trans p.sub,p.inH,p.inM,p.dis,fun n hn hm=>?_,p.frm.mono fun n _ hm=>hdel n hm⟩,hq⟩
  obtain⟨h1,h2⟩:=p.old n hn (hdel n hm)
  refine⟨h1.trans (ins_ne _ _ fun e=>?_),h2⟩
  rw[e,hb] at hm
  cases hm
theorem Rd.anyO {H O : PH} {a:Addr} {sz:Nat} {cs:List Value} (h:Rd H emp a sz cs):Rd H O a sz cs:=by
  obtain⟨h1,h2,c,t,fr,h3,h4⟩:=h
  refine⟨h1,h2,c,t,fr,.inl (h3.resolve_right ?_),h4⟩
  intro e
  cases e
end Go.Proofs.YtgbhgfdgifkdhaaGreat.X

namespace Go.Proofs.YtgbhgfdgifkdhaaGreat.X
open Go PH
def En.val? : En→Option Value
  | .any=>none
  | .v x=>some x
  | .l x _=>some x
def dstIdx (ops : List Oper) (t:Nat):Option Nat:=ops.findIdx? fun o=>o.dst == some t
def envAt (ops : List Oper) (env:List En) (V:Nat→Value) (p:Nat→Bool):List En:=(List.range env.length).map fun t=>match dstIdx ops t with
  | some j=>bif p j then .v (V j) else .any
  | none=>env.getD t .any
def seesB (ops : List Oper) (o:Oper) (j:Nat):Bool:=(o.looksAt ⟨ops⟩).any fun t=>dstIdx ops t == some j
def okOp (ops : List Oper) (i:Nat) (o:Oper) (n:Nat):Bool:=
  o.guard.isNone && (match o.op with
    | .defer _=>false
    | .select _ _=>false
    | _=>true) && (match o.dst with
    | none=>true
    | some d=>Nat.blt d n && (dstIdx ops d == some i)) && o.after.toList.all (fun e=>!Region.binds .any e || Nat.blt e.on i) &&
  (o.looksAt ⟨ops⟩).all fun t=>match dstIdx ops t with
    | none=>true
    | some j=>((maskTab ops []).getD i 0).testBit j
def okFree (ops : List Oper) (n:Nat):Bool:=(List.range ops.length).all fun i=>match ops[i]? with
  | some o=>okOp ops i o n
  | none=>false
def setL (L : Nat→Bool) (i:Nat):Nat→Bool:=fun j=>j == i || L j
def setV (V : Nat→Value) (i:Nat) (v:Value):Nat→Value:=fun j=>bif j == i then v else V j
theorem envAt_get {ops : List Oper} {env:List En} {V:Nat→Value} {p:Nat→Bool} {t:Nat} {e:En} (h:(envAt ops env V p)[t]?=some e) :
    t < env.length∧((∃ j,dstIdx ops t=some j∧((p j=true∧e=.v (V j))∨(p j=false∧e=.any)))∨(dstIdx ops t=none∧env[t]?=some e)):=by
  unfold envAt at h
  rw[List.getElem?_map] at h
  obtain⟨x,hx,rfl⟩:=Option.map_eq_some_iff.1 h
  obtain⟨hlt,hx⟩:=List.getElem?_eq_some_iff.1 hx
  simp at hlt hx
  subst hx
  refine⟨hlt,?_⟩
  cases e:dstIdx ops t with
  | none=>
    right
    refine⟨rfl,?_⟩
    simp[List.getD_eq_getElem?_getD,hlt]
  | some j=>
    left
    refine⟨j,rfl,?_⟩
    cases hp:p j<;>simp[hp]
theorem envAt_at {ops : List Oper} {env:List En} {V:Nat→Value} {p:Nat→Bool} {t:Nat} (ht:t < env.length):(envAt ops env V p)[t]?=some (match dstIdx ops t with
  | some j=>bif p j then .v (V j) else .any
  | none=>env.getD t .any):=by
  unfold envAt
  rw[List.getElem?_map,List.getElem?_range ht]
  rfl
section
variable {Γ : TypeId → TI} {P : Program} {φ : Fr} {r : Option Nat} {pol : Tmp → Pol} {ops : List Oper}
theorem okFree_op {n : Nat} (h:okFree ops n=true) {i:Nat} {o:Oper} (ho:ops[i]?=some o):okOp ops i o n=true:=by
  have hi:=(List.getElem?_eq_some_iff.1 ho).1
  have:=List.all_eq_true.1 h i (List.mem_range.2 hi)
  rw[ho] at this
  exact this
structure OpF (ops : List Oper) (i:Nat) (o:Oper) (n:Nat):Prop where
  guard:o.guard=none
  dst:∀ d,o.dst=some d→d < n∧dstIdx ops d=some i
  edge:∀ e∈o.after.toList,Region.binds .any e=true→e.on < i
  sees:∀ t∈o.looksAt ⟨ops⟩,∀ j,dstIdx ops t=some j→Bef ops j i
theorem okOp_ok {i : Nat} {o:Oper} {n:Nat} (h:okOp ops i o n=true):OpF ops i o n:=by
  unfold okOp at h
  simp only[Bool.and_eq_true] at h
  obtain⟨⟨⟨⟨h1,_⟩,h2⟩,h3⟩,h4⟩:=h
  refine⟨by simpa using h1,fun d hd=>?_,fun e he hb=>?_,fun t ht j hj=>?_⟩
  · rw[hd] at h2
    simp only[Bool.and_eq_true,beq_iff_eq] at h2
    exact⟨by simpa using h2.1,h2.2⟩
  · have:=List.all_eq_true.1 h3 e he
    rw[hb] at this
    simpa using this
  · have:=List.all_eq_true.1 h4 t ht
    rw[hj] at this
    exact maskTab_sound ops [] [] (by simp) (by simp) (by simp) _ _ this
theorem wanted_none {o : Oper} {a:Act} (h:o.guard=none):Region.wanted o (yielded ⟨ops⟩ a.tmps)=true:=by
  unfold Region.wanted
  rw[h]
theorem Real.newEnv {s : S} {a a':Act} {w:World} {env':List En} {loc' l:List (Option B)} (hR:Real φ s a w) (hl:s.loc=loc'++l) (hd:a'.defers=a.defers) (hs:a'.tmps.size=env'.length) (he:∀ (t:Nat) (e:En),env'[t]?=some e→Holds loc' e a'.tmps[t]?) :
    Real φ ⟨env',loc',s.H,s.O⟩ a' w:=by
  have up:∀ (i:Nat) (b:B),loc'[i]?=some (some b)→s.loc[i]?=some (some b):=fun i b hb=>by
    rw[hl,List.getElem?_append_left (List.getElem?_eq_some_iff.1 hb).1];exact hb
  refine⟨hs,he,fun i b hb=>hR.loc i b (up i b hb),fun i j b c hb hc=>hR.apart i j b c (up i b hb) (up j c hc),hR.inH,hR.inO,hR.dis,hR.sub,hR.old,hR.frm,by rw[hd];exact hR.uniq,fun d hd'=>?_⟩
  rw[hd] at hd'
  obtain⟨q,q1,q2,q3,q4,q5,q6⟩:=hR.marks d hd'
  exact⟨q,q1,q2,q3,q4,q5,fun i b hb=>q6 i b (up i b hb)⟩
theorem W_free {id : Nat} {env:List En} {loc:List (Option B)} {H O:PH} {KK:Exit→S→Prop} (hΓ:∀ t,TIOK P t (Γ t)) (hm:P.follows .mixedOrders=true) (n:Nat) (hc:okFree ops n=true) (hn:env.length=n)
    (I:(Nat→Bool)→(Nat→Value)→PH→PH→Prop) (h0:I (fun _=>false) (fun _=>undef) H O)
    (step:∀ (i:Nat) (o:Oper),ops[i]?=some o→∀ (L:Nat→Bool) (V:Nat→Value) (H' O':PH),I L V H' O'→L i=false→(∀ j,seesB ops o j=true→L j=true) →
      opK Γ P (pol (o.dst.getD 0)) o.op ⟨envAt ops env V (seesB ops o),loc,H',O'⟩ fun s' e=>(∃ l,s'.loc=loc++l)∧∃ v,e.val?=some v∧I (setL L i) (setV V i v) s'.H s'.O)
    (fin:∀ (L:Nat→Bool) (V:Nat→Value) (H' O':PH),I L V H' O'→(∀ j,j < ops.length→L j=true)→KK .normal ⟨envAt ops env V (fun _=>true),loc,H',O'⟩) :
    W P r (.region id ⟨ops⟩ true) ⟨env,loc,H,O⟩ KK:=by
  unfold W
  intro φ a w hr hR
  refine wpIn_region_any hm ?_
  have main:∀ (fuel:Nat) (listed:Array Bool) (a:Act) (w:World) (V:Nat→Value) (H' O':PH),listed.size=ops.length→DC ops listed→I (fun j=>listed.getD j false) V H' O' →
      Real φ ⟨envAt ops env V fun j=>listed.getD j false,loc,H',O'⟩ a w→unl ops listed≤fuel→wpAnyIn (wide r) 0 P .any ⟨ops⟩ (PostOf φ KK) fuel listed a w:=by
    have done:∀ (listed:Array Bool) (a:Act) (w:World) (V:Nat→Value) (H' O':PH),listed.size=ops.length→I (fun j=>listed.getD j false) V H' O' →
      Real φ ⟨envAt ops env V fun j=>listed.getD j false,loc,H',O'⟩ a w→Region.ready .any ⟨ops⟩ listed=[]→PostOf φ KK .normal a w:=by
      intro listed a w V H' O' hsz hI hR hnil
      have hall:∀ k,k < ops.length→listed.getD k false=true:=by
        intro k
        induction k using Nat.strongRecOn with
        | _ k ih=>
          intro hk
          refine Classical.byContradiction fun hn=>?_
          have hok:=okOp_ok (okFree_op hc (List.getElem?_eq_getElem hk))
          have:k∈Region.ready .any ⟨ops⟩ listed:=by
            refine mem_ready.2 ⟨?_,ops[k],by simpa using List.getElem?_eq_getElem hk,fun e he' hb=>?_⟩
            · have hlt':k < listed.size:=by omega
              simp[Array.getD_eq_getD_getElem?,hlt'] at hn ⊢
              exact hn
            · have:=hok.edge e (by simpa using he') hb
              exact ih e.on this (by omega)
          rw[hnil] at this
          simp at this
      refine⟨rfl,_,fin _ V H' O' hI hall,?_⟩
      refine hR.newEnv (l:=[]) (by simp) rfl (by have:=hR.size;simp[envAt] at this ⊢;exact this) (fun t e he=>?_)
      obtain⟨hlt,h | ⟨h,h'⟩⟩:=envAt_get he
      · obtain⟨j,hj,h | h⟩:=h
        · obtain⟨_,rfl⟩:=h
          have hjl:j < ops.length:=by
            unfold dstIdx at hj
            rw[List.findIdx?_eq_some_iff_getElem] at hj
            exact hj.1
          refine hR.env t _ ?_
          dsimp only
          rw[envAt_at hlt,hj]
          simp only[hall j hjl]
          rfl
        · cases h.1
      · refine hR.env t e ?_
        dsimp only
        rw[envAt_at hlt,h]
        dsimp only
        rw[List.getD_eq_getElem?_getD,h',Option.getD_some]
    intro fuel
    induction fuel with
    | zero=>
      intro listed a w V H' O' hsz hdc hI hR hu
      have hr:Region.ready .any ⟨ops⟩ listed=[]:=by
        apply List.eq_nil_iff_forall_not_mem.2
        intro k hk
        obtain⟨h1,o,ho,_⟩:=mem_ready.1 hk
        have hlt:k < ops.length:=by simpa using (Array.getElem?_eq_some_iff.1 ho).1
        have hmem:k∈(List.range ops.length).filter fun k=>!(listed.getD k false):=List.mem_filter.2 ⟨List.mem_range.2 hlt,by
          have hlt':k < listed.size:=by omega
          simp[Array.getD_eq_getD_getElem?,hlt'] at h1 ⊢
          exact h1⟩
        have:=List.length_pos_of_mem hmem
        unfold unl at hu
        omega
      exact⟨hr,done listed a w V H' O' hsz hI hR hr⟩
    | succ fuel ih=>
      intro listed a w V H' O' hsz hdc hI hR hu
      refine⟨fun hnil=>done listed a w V H' O' hsz hI hR hnil,fun i hi=>?_⟩
      obtain⟨h1,o,ho,hed⟩:=mem_ready.1 hi
      have hil:i < ops.length:=by simpa using (Array.getElem?_eq_some_iff.1 ho).1
      have hio:ops[i]?=some o:=by simpa using ho
      have hok:=okOp_ok (okFree_op hc hio)
      have hn1:listed.getD i false=false:=by
        have hlt':i < listed.size:=by omega
        simp[Array.getD_eq_getD_getElem?,hlt'] at h1 ⊢
        exact h1
      have hrdy:Rdy ops listed i:=fun o' ho' e he hb=>by
        rw[hio] at ho';cases ho'
        exact hed e (by simpa using he) hb
      have hu':unl ops (listed.setIfInBounds i true)≤fuel:=by
        have:unl ops (listed.setIfInBounds i true) < unl ops listed:=by
          refine filter_lt (fun x _ hx=>?_) ⟨i,List.mem_range.2 hil,?_,?_⟩
          · simp only[Bool.not_eq_true'] at hx ⊢
            cases hx':listed.getD x false
            · rfl
            · rw[(getD_set (by rw[hsz];exact hil)).2 (.inr hx')] at hx;cases hx
          · simpa using hn1
          · rw[(getD_set (by rw[hsz];exact hil)).2 (.inl rfl)];rfl
        omega
      have hsee:∀ j,seesB ops o j=true→listed.getD j false=true:=by
        intro j hj
        obtain⟨t,ht,hj⟩:=List.any_eq_true.1 hj
        exact (hok.sees t ht j (by simpa using hj)).listed hdc hrdy
      have hst:=step i o hio _ V H' O' hI hn1 hsee
      have hR1:Real φ ⟨envAt ops env V (seesB ops o),loc,H',O'⟩ a w:=by
        refine hR.newEnv (l:=[]) (by simp) rfl (by have:=hR.size;simp[envAt] at this ⊢;exact this) (fun t e he=>?_)
        obtain⟨hlt,h | ⟨h,h'⟩⟩:=envAt_get he
        · obtain⟨j,hj,⟨hp,rfl⟩ | ⟨hp,rfl⟩⟩:=h
          · refine hR.env t _ ?_
            dsimp only
            rw[envAt_at hlt,hj]
            simp only[hsee j hp]
            rfl
          · exact trivial
        · refine hR.env t e ?_
          dsimp only
          rw[envAt_at hlt,h]
          dsimp only
          rw[List.getD_eq_getElem?_getD,h',Option.getD_some]
      refine wpOpIn_yes hio (wanted_none hok.guard) (opK_sound hΓ hR1 hst ?_)
      rintro v w' s' e ⟨⟨l,hl⟩,v',hv',hI'⟩ _ hR2 hh
      have hvv:v=v':=by
        cases e with
        | any=>cases hv'
        | v x=>cases hv';exact Option.some.inj hh
        | l x i=>cases hv';exact Option.some.inj hh.1
      subst hvv
      have hL:(fun j=>(listed.setIfInBounds i true).getD j false)=setL (fun j=>listed.getD j false) i:=by
        funext j
        unfold setL
        rw[Bool.eq_iff_iff,getD_set (by rw[hsz];exact hil)]
        simp
      refine ih _ _ w' (setV V i v) s'.H s'.O (by simpa using hsz) (dc_set hsz hdc hil hrdy) (by rw[hL];exact hI') ?_ hu'
      rw[hL]
      refine hR2.newEnv hl put_defs (by rw[put_size];have:=hR.size;simp[envAt] at this ⊢;exact this) (fun t e' he=>?_)
      have hsize:a.tmps.size=env.length:=by have:=hR.size;simpa[envAt] using this
      obtain⟨hlt,h | ⟨h,h'⟩⟩:=envAt_get he
      · obtain⟨j,hj,⟨hp,rfl⟩ | ⟨hp,rfl⟩⟩:=h
        · by_cases hji:j=i
          · subst hji
            obtain⟨hjl,hjd,_⟩:=List.findIdx?_eq_some_iff_getElem.1 hj
            have hoj:ops[j]=o:=by
              rw[List.getElem?_eq_getElem hjl] at hio
              exact Option.some.inj hio
            have hd:o.dst=some t:=by rw[← hoj];simpa using hjd
            show (a.put o.dst v).tmps[t]?=some _
            rw[hd,put_self (by omega)]
            simp[setV]
          · have hd:o.dst ≠ some t:=fun hd=>by
              have:=(hok.dst t hd).2
              rw[hj] at this
              exact hji (Option.some.inj this)
            have hpj:listed.getD j false=true:=by
              unfold setL at hp
              simpa[hji] using hp
            show (a.put o.dst v).tmps[t]?=some _
            rw[put_get hd]
            have:=hR.env t (.v (V j)) (by
              dsimp only
              rw[envAt_at hlt,hj]
              simp only[hpj]
              rfl)
            have e2:setV V i v j=V j:=by
              unfold setV
              rw[show (j == i)=false by simpa using hji]
              rfl
            rw[e2]
            exact this
        · exact trivial
      · have hd:o.dst ≠ some t:=fun hd=>by
          have:=(hok.dst t hd).2
          rw[h] at this
          cases this
        rw[put_get hd]
        refine hR.env t e' ?_
        dsimp only
        rw[envAt_at hlt,h]
        dsimp only
        rw[List.getD_eq_getElem?_getD,h',Option.getD_some]
  have hR':Real φ ⟨env,loc,H,O⟩ a { w with drawn:=w.drawn+1 }:=
    ⟨hR.size,hR.env,hR.loc,hR.apart,hR.inH,hR.inO,hR.dis,hR.sub,hR.old,⟨hR.frm.os,hR.frm.tape,hR.frm.output,hR.frm.size,hR.frm.block⟩,hR.uniq,hR.marks⟩
  have hno:∀ j,(Array.replicate (⟨ops⟩:Array Oper).size false).getD j false=false:=fun j=>by
    simp[Array.getD_eq_getD_getElem?,Array.getElem?_replicate]
    split<;>rfl
  have hL0:(fun j=>(Array.replicate (⟨ops⟩:Array Oper).size false).getD j false)=fun _=>false:=funext hno
  refine main ops.length _ a _ (fun _=>undef) H O (by simp) (fun j hj=>by rw[hno] at hj;cases hj) (by rw[hL0];exact h0) ?_ ?_
  · rw[hL0]
    refine hR'.newEnv (l:=[]) (by simp) rfl (by have:=hR.size;simp[envAt] at this ⊢;exact this) (fun t e he=>?_)
    obtain⟨hlt,h | ⟨h,h'⟩⟩:=envAt_get he
    · obtain⟨j,hj,⟨hp,rfl⟩ | ⟨hp,rfl⟩⟩:=h
      · cases hp
      · exact trivial
    · exact hR'.env t e h'
  · unfold unl
    exact Nat.le_trans (List.length_filter_le _ _) (by simp)
end
end Go.Proofs.YtgbhgfdgifkdhaaGreat.X

namespace Go.Proofs.YtgbhgfdgifkdhaaGreat.X
open Go PH
theorem append_one' {H O : PH} {t:TypeId} {sz by_:Nat} {z:List Value} {s x:Value} {K:Value→PH→Prop} {xs:List (List Value)} {y:List Value} (hs:OwnS O sz t s xs) (hz:z.length=sz) (hy:y.length=sz) (hone:∀ v∈y,v.oneCell'=true)
    (hx:∃ b c cap,x=.slice (some b) 1 cap∧c=y∧Rd H O b sz c) (hb:(xs.length+1)*(by_+1)≤140737488355328)
    (k:∀ v O',OwnS O' sz t v (xs++[y])→(∀ n o,O n=some o→(∀ cap,s ≠ .slice (some ⟨n,0,none⟩) xs.length cap)→O' n=some o)→K v O'):appendK H O t sz by_ z s x K:=by
  obtain⟨bx,c,capx,rfl,rfl,hrd⟩:=hx
  obtain⟨hlen,hs⟩:=hs
  have hfl:=flat_length hlen
  have hlen':∀ x∈xs++[c],x.length=sz:=by
    intro x hx
    rcases List.mem_append.1 hx with h | h
    · exact hlen x h
    · simp at h;rw[h];exact hy
  have hfl':(xs++[c]).flatten=xs.flatten++c:=by simp
  unfold appendK
  have key:∀ (b:Nat) (cap:Nat),H b=none→O b=none→xs.length+1≤cap→K (.slice (some ⟨b,0,none⟩) (xs.length+1) cap) (ins O b (.cells ⟨xs.flatten++c++(List.replicate (cap - (xs.length+1)) z).flatten⟩ t (0,0))):=by
    intro b cap hb1 hb2 hcap
    refine k _ _ ⟨hlen',.inr ⟨b,cap,(List.replicate (cap - (xs.length+1)) z).flatten,by simp,by rw[ins_same,hfl'],by simpa using hcap,?_⟩⟩ (fun n o hn _=>(ins_ne _ _ fun e=>by rw[e,hb2] at hn;cases hn).trans hn)
    · rw[List.length_flatten];simp[hz]
  rcases hs with⟨rfl,rfl⟩ | ⟨b,cap,spare,rfl,hO,hcap,hsp⟩
  · refine⟨none,0,0,some bx,1,capx,c,rfl,rfl,by rw[hy,Nat.one_mul],hone,(fun h=>by cases h),fun a ha _=>?_,by simpa using hb,hz,(fun h=>by cases h),fun _ h=>by omega,fun _=>⟨[],by simp,fun _=>rfl,(fun a h=>by cases h),fun b cap h1 h2 h3=>?_⟩⟩
    · cases ha;rw[Nat.one_mul];exact hrd
    · have:=key b cap h1 h2 (by simpa using h3)
      simpa using this
  · refine⟨some ⟨b,0,none⟩,xs.length,cap,some bx,1,capx,c,rfl,rfl,by rw[hy,Nat.one_mul],hone,(fun h=>by cases h),fun a ha _=>?_,hb,hz,(fun h=>by cases h),fun _ h=>⟨b,0,_,t,rfl,hO,?_,?_⟩,fun h=>⟨xs.flatten,hfl,(fun h=>by cases h),fun a ha=>?_,fun b' cap' h1 h2 h3=>key b' cap' h1 h2 h3⟩⟩
    · cases ha;rw[Nat.one_mul];exact hrd
    · rw[List.length_append,hfl,hsp,Nat.zero_add,← Nat.add_mul,← Nat.add_mul]
      exact Nat.mul_le_mul_right _ (by omega)
    · have e1:(xs.flatten++spare).take (0+xs.length*sz)=xs.flatten:=by rw[Nat.zero_add,← hfl];simp
      have e2:(xs.flatten++spare).drop (0+xs.length*sz+1*sz)=spare.drop sz:=by
        rw[Nat.zero_add,Nat.one_mul,← List.drop_drop,← hfl];simp
      rw[e1,e2]
      refine k _ _ ⟨hlen',.inr ⟨b,cap,spare.drop sz,by simp,by rw[ins_same,hfl'],by simpa using h,?_⟩⟩ (fun n o hn hne=>(ins_ne _ _ fun e=>hne cap (by rw[e])).trans hn)
      · rw[List.length_drop,hsp,List.length_append,List.length_singleton]
        rw[show cap - xs.length=(cap - (xs.length+1))+1 by omega,Nat.succ_mul]
        omega
    · cases ha
      refine⟨rfl,hfl,_,t,(0,0),.inr hO,?_⟩
      dsimp only
      rw[List.drop_zero,← hfl]
      simp
theorem Real.repart {φ : Fr} {env:List En} {loc:List (Option B)} {H O H' O':PH} {a:Act} {w:World} (hR:Real φ ⟨env,loc,H,O⟩ a w) (rp:Repart H O H' O'):Real φ ⟨env,loc,H',O'⟩ a w:=by
  have own:∀ n,O n=none→O' n=none:=fun n hn=>by
    cases e:O' n with
    | none=>rfl
    | some o=>rw[rp.own n o e] at hn;cases hn
  have non:∀ n,H n=none→O n=none→H' n=none:=fun n h1 h2=>by
    cases e:H' n with
    | none=>rfl
    | some o=>
      rcases rp.from_ n o e with h | h
      · rw[h1] at h;cases h
      · rw[h2] at h;cases h
  refine⟨hR.size,hR.env,fun i b hb=>?_,hR.apart,fun n o hn=>(rp.from_ n o hn).elim (hR.inH n o) (hR.inO n o),In.sub hR.inO rp.own,rp.dis,hR.sub.trans rp.sub,fun n hn hm=>?_,hR.frm,hR.uniq,fun d hd=>?_⟩
  · obtain⟨h1,h2,h3,h4⟩:=hR.loc i b hb
    exact⟨h1,own _ h2,fun hp=>rp.sub _ _ (h3 hp),fun hp=>⟨non _ (h4 hp).1 h2,(h4 hp).2⟩⟩
  · obtain⟨h1,h2⟩:=hR.old n hn hm
    refine⟨?_,own n h2⟩
    cases e:H n with
    | none=>rw[← h1];dsimp only;rw[e];exact non n e h2
    | some o=>rw[← h1];dsimp only;rw[e];exact rp.sub n o e
  · obtain⟨q,q1,q2,q3,q4,q5,q6⟩:=hR.marks d hd
    exact⟨q,q1,q2,q3,non q q4 q5,own q q5,q6⟩
section
variable {P : Program} {r : Option Nat}
theorem W_repart {c : Code} {s:S} {K:Exit→S→Prop} (h:W P r c s fun e s'=>match s' with
    | ⟨env,loc,H,O⟩=>K e ⟨env,loc,H,O⟩∨(Dis H O→∃ H' O',Repart H O H' O'∧K e ⟨env,loc,H',O'⟩)):W P r c s K:=by
  refine W_post h ?_
  rintro e ⟨env,loc,H,O⟩ φ a w hk hR
  rcases hk with hk | hk
  · exact⟨_,hk,hR⟩
  · obtain⟨H',O',rp,hk⟩:=hk hR.dis
    exact⟨_,hk,hR.repart rp⟩
end
end Go.Proofs.YtgbhgfdgifkdhaaGreat.X

namespace Go.Proofs.YtgbhgfdgifkdhaaGreat.X
open Go PH
section
variable {P : Program} {r : Option Nat}
theorem W_pre {c : Code} {env:List En} {loc:List (Option B)} {H O:PH} {K:Exit→S→Prop} (h:Dis H O→∃ H' O',Repart H O H' O'∧W P r c ⟨env,loc,H',O'⟩ K):W P r c ⟨env,loc,H,O⟩ K:=by
  unfold W
  intro φ a w hr hR
  obtain⟨H',O',rp,h⟩:=h hR.dis
  unfold W at h
  exact h φ a w hr (hR.repart rp)
end
end Go.Proofs.YtgbhgfdgifkdhaaGreat.X

namespace Go.Proofs.YtgbhgfdgifkdhaaGreat.X
open Go PH
section
variable {P : Program} {r : Option Nat}
theorem W_lend {c : Code} {env:List En} {loc:List (Option B)} {H O L R:PH} {K:Exit→S→Prop} (hp:Parts O L R)
    (h:Dis H L→W P r c ⟨env,loc,un H L,R⟩ fun e s'=>match s' with
      | ⟨env',loc',H',O'⟩=>Sub L H'∧(∀ (i:Nat) (b:B),loc'[i]?=some (some b)→b.pub=true→L b.n=none) ∧
        ∀ H2,(∀ n,L n=none→H2 n=H' n)→(∀ n,L n ≠ none→H2 n=none)→K e ⟨env',loc',H2,un L O'⟩):W P r c ⟨env,loc,H,O⟩ K:=by
  have hLO:=hp.left
  unfold W
  intro φ a w hr hR
  have hd:Dis H L:=fun n=>by
    rcases hR.dis n with e | e
    · exact .inl e
    · exact .inr (hp.non e).1
  have hun:∀ n,L n=none→un H L n=H n:=fun n hn=>by
    unfold un
    cases e:H n with
    | none=>exact hn
    | some o=>rfl
  have hR1:Real φ ⟨env,loc,un H L,R⟩ a w:=by
    refine⟨hR.size,hR.env,fun i b hb=>?_,hR.apart,?_,In.sub hR.inO hp.right,?_,?_,?_,hR.frm,hR.uniq,fun d hd'=>?_⟩
    · obtain⟨h1,h2,h3,h4⟩:=hR.loc i b hb
      obtain⟨l1,l2⟩:=hp.non h2
      refine⟨h1,l2,fun hpub=>?_,fun hpub=>?_⟩
      · dsimp only;rw[hun _ l1];exact h3 hpub
      · dsimp only;rw[hun _ l1];exact h4 hpub
    · intro n o hn
      dsimp only at hn
      unfold un at hn
      cases e:H n with
      | some o'=>rw[e] at hn;cases hn;exact hR.inH n _ e
      | none=>rw[e] at hn;exact hR.inO n _ (hLO n _ hn)
    · intro n
      dsimp only
      cases e:R n with
      | none=>exact .inr rfl
      | some o=>
        refine .inl ?_
        have l1:L n=none:=(hp.dis n).resolve_right (by rw[e];simp)
        rw[hun n l1]
        exact (hR.dis n).resolve_right (by dsimp only;rw[hp.right n o e];simp)
    · intro n o hn
      have:=hR.sub n o hn
      dsimp only at this ⊢
      unfold un
      rw[this]
    · intro n hn hm
      obtain⟨h1,h2⟩:=hR.old n hn hm
      obtain⟨l1,l2⟩:=hp.non h2
      exact⟨(hun n l1).trans h1,l2⟩
    · obtain⟨q,q1,q2,q3,q4,q5,q6⟩:=hR.marks d hd'
      obtain⟨l1,l2⟩:=hp.non q5
      exact⟨q,q1,q2,q3,(hun q l1).trans q4,l2,q6⟩
  have h':=h hd
  unfold W at h'
  refine wpIn_mono (h' φ a w hr hR1) ?_
  rintro e a' w' ⟨hok,⟨env',loc',H',O'⟩,⟨hL,hlf,hk⟩,hR'⟩
  refine⟨hok,_,hk (fun n=>match L n with | some _=>none | none=>H' n) (fun n hn=>by simp[hn]) (fun n hn=>by
    cases e:L n with
    | none=>exact absurd e hn
    | some o=>simp),?_⟩
  have k1:∀ n,L n=none→(match L n with | some _=>none | none=>H' n:Option Obj)=H' n:=fun n hn=>by rw[hn]
  have k2:∀ n,L n=none→un L O' n=O' n:=fun n hn=>by unfold un;rw[hn]
  have k3:∀ n,H' n=none→(match L n with | some _=>none | none=>H' n:Option Obj)=none:=fun n hn=>by
    cases L n with
    | some _=>rfl
    | none=>exact hn
  have hLn:∀ n,H' n=none→L n=none:=fun n hn=>by
    cases e:L n with
    | none=>rfl
    | some o=>rw[hL n o e] at hn;cases hn
  refine⟨hR'.size,hR'.env,fun i b hb=>?_,hR'.apart,?_,?_,?_,?_,?_,hR'.frm,hR'.uniq,fun d hd'=>?_⟩
  · obtain⟨h1,h2,h3,h4⟩:=hR'.loc i b hb
    have hb0:L b.n=none:=by
      cases hpub:b.pub with
      | true=>exact hlf i b hb hpub
      | false=>exact hLn _ (h4 hpub).1
    refine⟨h1,(k2 _ hb0).trans h2,fun hpub=>(k1 _ hb0).trans (h3 hpub),fun hpub=>⟨(k1 _ hb0).trans (h4 hpub).1,(h4 hpub).2⟩⟩
  · intro n o hn
    dsimp only at hn
    cases e:L n with
    | some o'=>rw[e] at hn;cases hn
    | none=>rw[e] at hn;exact hR'.inH n o hn
  · intro n o hn
    dsimp only at hn
    unfold un at hn
    cases e:L n with
    | some o'=>rw[e] at hn;cases hn;exact hR'.inH n _ (hL n _ e)
    | none=>rw[e] at hn;exact hR'.inO n o hn
  · intro n
    dsimp only
    cases e:L n with
    | some o'=>exact .inl rfl
    | none=>
      rcases hR'.dis n with h1 | h1
      · exact .inl h1
      · exact .inr (by unfold un;rw[e];exact h1)
  · intro n o hn
    have h1:=hR.sub n o hn
    have h2:L n=none:=(hd n).resolve_left (by dsimp only at h1;rw[h1];simp)
    exact (k1 n h2).trans (hR'.sub n o hn)
  · intro n hn hm
    obtain⟨h1,h2⟩:=hR.old n hn hm
    obtain⟨g1,g2⟩:=hR'.old n hn hm
    have l1:=(hp.non h2).1
    exact⟨(k1 n l1).trans g1,(k2 n l1).trans g2⟩
  · obtain⟨q,q1,q2,q3,q4,q5,q6⟩:=hR'.marks d hd'
    exact⟨q,q1,q2,q3,k3 q q4,(k2 q (hLn q q4)).trans q5,q6⟩
end
end Go.Proofs.YtgbhgfdgifkdhaaGreat.X

namespace Go.Proofs.YtgbhgfdgifkdhaaGreat.X
open Go PH
def OwnA (O : PH) (sz:Nat) (t:TypeId) (v:Value) (xs:List (List Value)) (ob:Option Nat):Prop:=
  (∀ x∈xs,x.length=sz)∧((ob=none∧v=.slice none 0 0∧xs=[])∨∃ b cap spare,ob=some b∧v=.slice (some ⟨b,0,none⟩) xs.length cap∧O b=some (.cells ⟨xs.flatten++spare⟩ t (0,0))∧xs.length≤cap∧spare.length=(cap - xs.length)*sz)
theorem OwnA.own {O : PH} {sz:Nat} {t:TypeId} {v:Value} {xs:List (List Value)} {ob:Option Nat} (h:OwnA O sz t v xs ob):OwnS O sz t v xs:=by
  obtain⟨h1,h2⟩:=h
  rcases h2 with⟨_,h,h'⟩ | ⟨b,cap,sp,_,h,q⟩
  · exact⟨h1,.inl ⟨h,h'⟩⟩
  · exact⟨h1,.inr ⟨b,cap,sp,h,q⟩⟩
theorem OwnA.nil (O : PH) (sz:Nat) (t:TypeId):OwnA O sz t (.slice none 0 0) [] none:=⟨by simp,.inl ⟨rfl,rfl,rfl⟩⟩
theorem OwnA.sl {O : PH} {sz:Nat} {t:TypeId} {v:Value} {xs:List (List Value)} {ob:Option Nat} (h:OwnA O sz t v xs ob):∃ base cap,v=.slice base xs.length cap:=by
  rcases h.2 with⟨_,h,h'⟩ | ⟨b,cap,sp,_,h,q⟩
  · exact⟨none,0,by rw[h,h'];rfl⟩
  · exact⟨_,cap,h⟩
theorem OwnA.there {O : PH} {sz:Nat} {t:TypeId} {v:Value} {xs:List (List Value)} {b:Nat} (h:OwnA O sz t v xs (some b)):O b ≠ none:=by
  rcases h.2 with⟨h,_⟩ | ⟨b',cap,sp,e,h,ho,_⟩
  · cases h
  · cases e
    rw[ho]
    simp
def Ap (a b : Option Nat):Prop:=∀ n,a=some n→b ≠ some n
theorem Ap.symm {a b : Option Nat} (h:Ap a b):Ap b a:=fun n hb ha=>h n ha hb
theorem Ap.none_l (b : Option Nat):Ap none b:=fun n h=>by cases h
def Keeps (O O' : PH) (ob:Option Nat):Prop:=∀ n o,O n=some o→ob ≠ some n→O' n=some o
theorem OwnA.keep {O O' : PH} {sz:Nat} {t:TypeId} {v:Value} {xs:List (List Value)} {ob oc:Option Nat} (h:OwnA O sz t v xs ob) (k:Keeps O O' oc) (a:Ap oc ob):OwnA O' sz t v xs ob:=by
  refine⟨h.1,?_⟩
  rcases h.2 with h | ⟨b,cap,sp,e,h,ho,q⟩
  · exact .inl h
  · exact .inr ⟨b,cap,sp,e,h,k _ _ ho fun h'=>a b h' e,q⟩
theorem Ap.fresh {O : PH} {sz:Nat} {t:TypeId} {v:Value} {xs:List (List Value)} {oa ob:Option Nat} {b:Nat} (h:OwnA O sz t v xs ob) (a:Ap oa ob) (hb:oa=some b∨O b=none):Ap (some b) ob:=by
  intro n hn hob
  cases hn
  rcases hb with hb | hb
  · exact a b hb hob
  · subst hob
    exact h.there hb
theorem append_ap {H O : PH} {t:TypeId} {sz by_:Nat} {z:List Value} {s x:Value} {K:Value→PH→Prop} {xs:List (List Value)} {y:List Value} {ob:Option Nat} (hs:OwnA O sz t s xs ob) (hz:z.length=sz) (hy:y.length=sz) (hone:∀ v∈y,v.oneCell'=true)
    (hx:∃ b c cap,x=.slice (some b) 1 cap∧c=y∧Rd H O b sz c) (hb:(xs.length+1)*(by_+1)≤140737488355328)
    (k:∀ v O' b,OwnA O' sz t v (xs++[y]) (some b)→(ob=some b∨O b=none)→Keeps O O' ob→K v O'):appendK H O t sz by_ z s x K:=by
  obtain⟨bx,c,capx,rfl,rfl,hrd⟩:=hx
  obtain⟨hlen,hs⟩:=hs
  have hfl:=flat_length hlen
  have hlen':∀ x∈xs++[c],x.length=sz:=by
    intro x hx
    rcases List.mem_append.1 hx with h | h
    · exact hlen x h
    · simp at h;rw[h];exact hy
  have hfl':(xs++[c]).flatten=xs.flatten++c:=by simp
  unfold appendK
  have key:∀ (b:Nat) (cap:Nat),H b=none→O b=none→xs.length+1≤cap→K (.slice (some ⟨b,0,none⟩) (xs.length+1) cap) (ins O b (.cells ⟨xs.flatten++c++(List.replicate (cap - (xs.length+1)) z).flatten⟩ t (0,0))):=by
    intro b cap hb1 hb2 hcap
    refine k _ _ b ⟨hlen',.inr ⟨b,cap,(List.replicate (cap - (xs.length+1)) z).flatten,rfl,by simp,by rw[ins_same,hfl'],by simpa using hcap,?_⟩⟩ (.inr hb2) (fun n o hn _=>(ins_ne _ _ fun e=>by rw[e,hb2] at hn;cases hn).trans hn)
    · rw[List.length_flatten];simp[hz]
  rcases hs with⟨rfl,rfl,rfl⟩ | ⟨b,cap,spare,rfl,rfl,hO,hcap,hsp⟩
  · refine⟨none,0,0,some bx,1,capx,c,rfl,rfl,by rw[hy,Nat.one_mul],hone,(fun h=>by cases h),fun a ha _=>?_,by simpa using hb,hz,(fun h=>by cases h),fun _ h=>by omega,fun _=>⟨[],by simp,fun _=>rfl,(fun a h=>by cases h),fun b cap h1 h2 h3=>?_⟩⟩
    · cases ha;rw[Nat.one_mul];exact hrd
    · have:=key b cap h1 h2 (by simpa using h3)
      simpa using this
  · refine⟨some ⟨b,0,none⟩,xs.length,cap,some bx,1,capx,c,rfl,rfl,by rw[hy,Nat.one_mul],hone,(fun h=>by cases h),fun a ha _=>?_,hb,hz,(fun h=>by cases h),fun _ h=>⟨b,0,_,t,rfl,hO,?_,?_⟩,fun h=>⟨xs.flatten,hfl,(fun h=>by cases h),fun a ha=>?_,fun b' cap' h1 h2 h3=>key b' cap' h1 h2 h3⟩⟩
    · cases ha;rw[Nat.one_mul];exact hrd
    · rw[List.length_append,hfl,hsp,Nat.zero_add,← Nat.add_mul,← Nat.add_mul]
      exact Nat.mul_le_mul_right _ (by omega)
    · have e1:(xs.flatten++spare).take (0+xs.length*sz)=xs.flatten:=by rw[Nat.zero_add,← hfl];simp
      have e2:(xs.flatten++spare).drop (0+xs.length*sz+1*sz)=spare.drop sz:=by
        rw[Nat.zero_add,Nat.one_mul,← List.drop_drop,← hfl];simp
      rw[e1,e2]
      refine k _ _ b ⟨hlen',.inr ⟨b,cap,spare.drop sz,rfl,by simp,by rw[ins_same,hfl'],by simpa using h,?_⟩⟩ (.inl rfl) (fun n o hn hne=>(ins_ne _ _ fun e=>hne (by rw[e])).trans hn)
      · rw[List.length_drop,hsp,List.length_append,List.length_singleton]
        rw[show cap - xs.length=(cap - (xs.length+1))+1 by omega,Nat.succ_mul]
        omega
    · cases ha
      refine⟨rfl,hfl,_,t,(0,0),.inr hO,?_⟩
      dsimp only
      rw[List.drop_zero,← hfl]
      simp
end Go.Proofs.YtgbhgfdgifkdhaaGreat.X

namespace Go.Proofs.YtgbhgfdgifkdhaaGreat.X
open Go PH
section
variable {Γ : TypeId → TI} {P : Program}
theorem Btw.inv {ι : Type} {Φ:ι→PH→Prop} {cells:ι→List (Nat × List Value)} {OO:ι→PH} {loc:List (Option B)} {l:Nat} {o:Obj} {H M:PH} {bm:Nat} {I:PH→Obj→Prop} (h:Btw Φ cells OO loc l o H M) (inv:∀ i H',Φ i H'→∃ o,OO i bm=some o∧I H' o):∃ o,M bm=some o∧I H o:=by
  obtain⟨i,loc',h1,h2,rfl,h4⟩:=h
  obtain⟨o',e,hi⟩:=inv i H h1
  exact⟨o',mem_O h4 e,hi⟩
end
end Go.Proofs.YtgbhgfdgifkdhaaGreat.X

namespace Go.Proofs.YtgbhgfdgifkdhaaGreat.X
open Go PH
section
variable {Γ : TypeId → TI} {P : Program}
end
end Go.Proofs.YtgbhgfdgifkdhaaGreat.X

namespace Go.Proofs.YtgbhgfdgifkdhaaGreat.X
open Go PH
set_option maxRecDepth 100000
section
variable {Γ : TypeId → TI} {P : Program} {φ : Fr} {r : Option Nat} {pol : Tmp → Pol} {ops : List Oper}
def okOpG (ops : List Oper) (i:Nat) (o:Oper) (n:Nat):Bool:=
  (match o.guard with
    | none=>true
    | some (g,_)=>((maskTab ops []).getD i 0).testBit g && (match (ops[g]?).bind (·.dst) with
      | some t=>Nat.blt t n && (dstIdx ops t == some g)
      | none=>false)) && (match o.op with
    | .defer _=>false
    | .select _ _=>false
    | _=>true) && (match o.dst with
    | none=>true
    | some d=>Nat.blt d n && (dstIdx ops d == some i)) && o.after.toList.all (fun e=>!Region.binds .any e || Nat.blt e.on i) &&
  (o.looksAt ⟨ops⟩).all fun t=>match dstIdx ops t with
    | none=>true
    | some j=>((maskTab ops []).getD i 0).testBit j
def okFreeG (ops : List Oper) (n:Nat):Bool:=(List.range ops.length).all fun i=>match ops[i]? with
  | some o=>okOpG ops i o n
  | none=>false
theorem okFreeG_op {n : Nat} (h:okFreeG ops n=true) {i:Nat} {o:Oper} (ho:ops[i]?=some o):okOpG ops i o n=true:=by
  have hi:=(List.getElem?_eq_some_iff.1 ho).1
  have:=List.all_eq_true.1 h i (List.mem_range.2 hi)
  rw[ho] at this
  exact this
structure OpFG (ops : List Oper) (i:Nat) (o:Oper) (n:Nat):Prop where
  guard:∀ g b,o.guard=some (g,b)→Bef ops g i∧∃ t,(ops[g]?).bind (·.dst)=some t∧dstIdx ops t=some g∧t < n
  dst:∀ d,o.dst=some d→d < n∧dstIdx ops d=some i
  edge:∀ e∈o.after.toList,Region.binds .any e=true→e.on < i
  sees:∀ t∈o.looksAt ⟨ops⟩,∀ j,dstIdx ops t=some j→Bef ops j i
theorem okOpG_ok {i : Nat} {o:Oper} {n:Nat} (h:okOpG ops i o n=true):OpFG ops i o n:=by
  unfold okOpG at h
  simp only[Bool.and_eq_true] at h
  obtain⟨⟨⟨⟨h1,_⟩,h2⟩,h3⟩,h4⟩:=h
  refine⟨fun g b hg=>?_,fun d hd=>?_,fun e he hb=>?_,fun t ht j hj=>?_⟩
  · rw[hg] at h1
    simp only[Bool.and_eq_true] at h1
    refine⟨maskTab_sound ops [] [] (by simp) (by simp) (by simp) _ _ h1.1,?_⟩
    cases ht:(ops[g]?).bind (·.dst) with
    | none=>rw[ht] at h1;cases h1.2
    | some t=>
      rw[ht] at h1
      have h2:=h1.2
      simp only[Bool.and_eq_true,beq_iff_eq] at h2
      exact⟨t,rfl,h2.2,by simpa using h2.1⟩
  · rw[hd] at h2
    simp only[Bool.and_eq_true,beq_iff_eq] at h2
    exact⟨by simpa using h2.1,h2.2⟩
  · have:=List.all_eq_true.1 h3 e he
    rw[hb] at this
    simpa using this
  · have:=List.all_eq_true.1 h4 t ht
    rw[hj] at this
    exact maskTab_sound ops [] [] (by simp) (by simp) (by simp) _ _ this
theorem wanted_some {o : Oper} {g t:Nat} {b:Bool} {a:Act} (h:o.guard=some (g,b)) (ht:(ops[g]?).bind (·.dst)=some t) (hv:a.tmps[t]?=some (.bool b)):Region.wanted o (yielded ⟨ops⟩ a.tmps)=true:=by
  have e:yielded ⟨ops⟩ a.tmps g=some b:=by
    unfold yielded
    have:((⟨ops⟩:Array Oper)[g]?).bind (·.dst)=some t:=by simpa using ht
    rw[this]
    show (match a.tmps[t]? with | some (.bool b)=>some b | _=>none)=_
    rw[hv]
  unfold Region.wanted
  rw[h]
  simp[e]
theorem W_freeG {id : Nat} {env:List En} {loc:List (Option B)} {H O:PH} {KK:Exit→S→Prop} (hΓ:∀ t,TIOK P t (Γ t)) (hm:P.follows .mixedOrders=true) (n:Nat) (hc:okFreeG ops n=true) (hn:env.length=n)
    (I:(Nat→Bool)→(Nat→Value)→PH→PH→Prop) (h0:I (fun _=>false) (fun _=>undef) H O)
    (gd:∀ (i:Nat) (o:Oper) (g:Nat) (b:Bool),ops[i]?=some o→o.guard=some (g,b)→∀ (L:Nat→Bool) (V:Nat→Value) (H' O':PH),I L V H' O'→L g=true→V g=.bool b)
    (step:∀ (i:Nat) (o:Oper),ops[i]?=some o→∀ (L:Nat→Bool) (V:Nat→Value) (H' O':PH),I L V H' O'→L i=false→(∀ j,seesB ops o j=true→L j=true) →
      opK Γ P (pol (o.dst.getD 0)) o.op ⟨envAt ops env V (seesB ops o),loc,H',O'⟩ fun s' e=>(∃ l,s'.loc=loc++l)∧∃ v,e.val?=some v∧I (setL L i) (setV V i v) s'.H s'.O)
    (fin:∀ (L:Nat→Bool) (V:Nat→Value) (H' O':PH),I L V H' O'→(∀ j,j < ops.length→L j=true)→KK .normal ⟨envAt ops env V (fun _=>true),loc,H',O'⟩) :
    W P r (.region id ⟨ops⟩ true) ⟨env,loc,H,O⟩ KK:=by
  unfold W
  intro φ a w hr hR
  refine wpIn_region_any hm ?_
  have main:∀ (fuel:Nat) (listed:Array Bool) (a:Act) (w:World) (V:Nat→Value) (H' O':PH),listed.size=ops.length→DC ops listed→I (fun j=>listed.getD j false) V H' O' →
      Real φ ⟨envAt ops env V fun j=>listed.getD j false,loc,H',O'⟩ a w→unl ops listed≤fuel→wpAnyIn (wide r) 0 P .any ⟨ops⟩ (PostOf φ KK) fuel listed a w:=by
    have done:∀ (listed:Array Bool) (a:Act) (w:World) (V:Nat→Value) (H' O':PH),listed.size=ops.length→I (fun j=>listed.getD j false) V H' O' →
      Real φ ⟨envAt ops env V fun j=>listed.getD j false,loc,H',O'⟩ a w→Region.ready .any ⟨ops⟩ listed=[]→PostOf φ KK .normal a w:=by
      intro listed a w V H' O' hsz hI hR hnil
      have hall:∀ k,k < ops.length→listed.getD k false=true:=by
        intro k
        induction k using Nat.strongRecOn with
        | _ k ih=>
          intro hk
          refine Classical.byContradiction fun hn=>?_
          have hok:=okOpG_ok (okFreeG_op hc (List.getElem?_eq_getElem hk))
          have:k∈Region.ready .any ⟨ops⟩ listed:=by
            refine mem_ready.2 ⟨?_,ops[k],by simpa using List.getElem?_eq_getElem hk,fun e he' hb=>?_⟩
            · have hlt':k < listed.size:=by omega
              simp[Array.getD_eq_getD_getElem?,hlt'] at hn ⊢
              exact hn
            · have:=hok.edge e (by simpa using he') hb
              exact ih e.on this (by omega)
          rw[hnil] at this
          simp at this
      refine⟨rfl,_,fin _ V H' O' hI hall,?_⟩
      refine hR.newEnv (l:=[]) (by simp) rfl (by have:=hR.size;simp[envAt] at this ⊢;exact this) (fun t e he=>?_)
      obtain⟨hlt,h | ⟨h,h'⟩⟩:=envAt_get he
      · obtain⟨j,hj,h | h⟩:=h
        · obtain⟨_,rfl⟩:=h
          have hjl:j < ops.length:=by
            unfold dstIdx at hj
            rw[List.findIdx?_eq_some_iff_getElem] at hj
            exact hj.1
          refine hR.env t _ ?_
          dsimp only
          rw[envAt_at hlt,hj]
          simp only[hall j hjl]
          rfl
        · cases h.1
      · refine hR.env t e ?_
        dsimp only
        rw[envAt_at hlt,h]
        dsimp only
        rw[List.getD_eq_getElem?_getD,h',Option.getD_some]
    intro fuel
    induction fuel with
    | zero=>
      intro listed a w V H' O' hsz hdc hI hR hu
      have hr:Region.ready .any ⟨ops⟩ listed=[]:=by
        apply List.eq_nil_iff_forall_not_mem.2
        intro k hk
        obtain⟨h1,o,ho,_⟩:=mem_ready.1 hk
        have hlt:k < ops.length:=by simpa using (Array.getElem?_eq_some_iff.1 ho).1
        have hmem:k∈(List.range ops.length).filter fun k=>!(listed.getD k false):=List.mem_filter.2 ⟨List.mem_range.2 hlt,by
          have hlt':k < listed.size:=by omega
          simp[Array.getD_eq_getD_getElem?,hlt'] at h1 ⊢
          exact h1⟩
        have:=List.length_pos_of_mem hmem
        unfold unl at hu
        omega
      exact⟨hr,done listed a w V H' O' hsz hI hR hr⟩
    | succ fuel ih=>
      intro listed a w V H' O' hsz hdc hI hR hu
      refine⟨fun hnil=>done listed a w V H' O' hsz hI hR hnil,fun i hi=>?_⟩
      obtain⟨h1,o,ho,hed⟩:=mem_ready.1 hi
      have hil:i < ops.length:=by simpa using (Array.getElem?_eq_some_iff.1 ho).1
      have hio:ops[i]?=some o:=by simpa using ho
      have hok:=okOpG_ok (okFreeG_op hc hio)
      have hn1:listed.getD i false=false:=by
        have hlt':i < listed.size:=by omega
        simp[Array.getD_eq_getD_getElem?,hlt'] at h1 ⊢
        exact h1
      have hrdy:Rdy ops listed i:=fun o' ho' e he hb=>by
        rw[hio] at ho';cases ho'
        exact hed e (by simpa using he) hb
      have hu':unl ops (listed.setIfInBounds i true)≤fuel:=by
        have:unl ops (listed.setIfInBounds i true) < unl ops listed:=by
          refine filter_lt (fun x _ hx=>?_) ⟨i,List.mem_range.2 hil,?_,?_⟩
          · simp only[Bool.not_eq_true'] at hx ⊢
            cases hx':listed.getD x false
            · rfl
            · rw[(getD_set (by rw[hsz];exact hil)).2 (.inr hx')] at hx;cases hx
          · simpa using hn1
          · rw[(getD_set (by rw[hsz];exact hil)).2 (.inl rfl)];rfl
        omega
      have hsee:∀ j,seesB ops o j=true→listed.getD j false=true:=by
        intro j hj
        obtain⟨t,ht,hj⟩:=List.any_eq_true.1 hj
        exact (hok.sees t ht j (by simpa using hj)).listed hdc hrdy
      have hst:=step i o hio _ V H' O' hI hn1 hsee
      have hR1:Real φ ⟨envAt ops env V (seesB ops o),loc,H',O'⟩ a w:=by
        refine hR.newEnv (l:=[]) (by simp) rfl (by have:=hR.size;simp[envAt] at this ⊢;exact this) (fun t e he=>?_)
        obtain⟨hlt,h | ⟨h,h'⟩⟩:=envAt_get he
        · obtain⟨j,hj,⟨hp,rfl⟩ | ⟨hp,rfl⟩⟩:=h
          · refine hR.env t _ ?_
            dsimp only
            rw[envAt_at hlt,hj]
            simp only[hsee j hp]
            rfl
          · exact trivial
        · refine hR.env t e ?_
          dsimp only
          rw[envAt_at hlt,h]
          dsimp only
          rw[List.getD_eq_getElem?_getD,h',Option.getD_some]
      have hwant:Region.wanted o (yielded ⟨ops⟩ a.tmps)=true:=by
        cases hgu:o.guard with
        | none=>exact wanted_none hgu
        | some gb=>
          obtain⟨g,b⟩:=gb
          obtain⟨hbef,t,ht1,ht2,ht3⟩:=hok.guard g b hgu
          have hLg:listed.getD g false=true:=hbef.listed hdc hrdy
          have hVg:=gd i o g b hio hgu _ V H' O' hI hLg
          refine wanted_some hgu ht1 ?_
          have hh:=hR.env t (.v (V g)) (by
            dsimp only
            rw[envAt_at (by rw[hn];exact ht3),ht2]
            simp only[hLg]
            rfl)
          rw[hVg] at hh
          exact hh
      refine wpOpIn_yes hio hwant (opK_sound hΓ hR1 hst ?_)
      rintro v w' s' e ⟨⟨l,hl⟩,v',hv',hI'⟩ _ hR2 hh
      have hvv:v=v':=by
        cases e with
        | any=>cases hv'
        | v x=>cases hv';exact Option.some.inj hh
        | l x i=>cases hv';exact Option.some.inj hh.1
      subst hvv
      have hL:(fun j=>(listed.setIfInBounds i true).getD j false)=setL (fun j=>listed.getD j false) i:=by
        funext j
        unfold setL
        rw[Bool.eq_iff_iff,getD_set (by rw[hsz];exact hil)]
        simp
      refine ih _ _ w' (setV V i v) s'.H s'.O (by simpa using hsz) (dc_set hsz hdc hil hrdy) (by rw[hL];exact hI') ?_ hu'
      rw[hL]
      refine hR2.newEnv hl put_defs (by rw[put_size];have:=hR.size;simp[envAt] at this ⊢;exact this) (fun t e' he=>?_)
      have hsize:a.tmps.size=env.length:=by have:=hR.size;simpa[envAt] using this
      obtain⟨hlt,h | ⟨h,h'⟩⟩:=envAt_get he
      · obtain⟨j,hj,⟨hp,rfl⟩ | ⟨hp,rfl⟩⟩:=h
        · by_cases hji:j=i
          · subst hji
            obtain⟨hjl,hjd,_⟩:=List.findIdx?_eq_some_iff_getElem.1 hj
            have hoj:ops[j]=o:=by
              rw[List.getElem?_eq_getElem hjl] at hio
              exact Option.some.inj hio
            have hd:o.dst=some t:=by rw[← hoj];simpa using hjd
            show (a.put o.dst v).tmps[t]?=some _
            rw[hd,put_self (by omega)]
            simp[setV]
          · have hd:o.dst ≠ some t:=fun hd=>by
              have:=(hok.dst t hd).2
              rw[hj] at this
              exact hji (Option.some.inj this)
            have hpj:listed.getD j false=true:=by
              unfold setL at hp
              simpa[hji] using hp
            show (a.put o.dst v).tmps[t]?=some _
            rw[put_get hd]
            have:=hR.env t (.v (V j)) (by
              dsimp only
              rw[envAt_at hlt,hj]
              simp only[hpj]
              rfl)
            have e2:setV V i v j=V j:=by
              unfold setV
              rw[show (j == i)=false by simpa using hji]
              rfl
            rw[e2]
            exact this
        · exact trivial
      · have hd:o.dst ≠ some t:=fun hd=>by
          have:=(hok.dst t hd).2
          rw[h] at this
          cases this
        rw[put_get hd]
        refine hR.env t e' ?_
        dsimp only
        rw[envAt_at hlt,h]
        dsimp only
        rw[List.getD_eq_getElem?_getD,h',Option.getD_some]
  have hR':Real φ ⟨env,loc,H,O⟩ a { w with drawn:=w.drawn+1 }:=
    ⟨hR.size,hR.env,hR.loc,hR.apart,hR.inH,hR.inO,hR.dis,hR.sub,hR.old,⟨hR.frm.os,hR.frm.tape,hR.frm.output,hR.frm.size,hR.frm.block⟩,hR.uniq,hR.marks⟩
  have hno:∀ j,(Array.replicate (⟨ops⟩:Array Oper).size false).getD j false=false:=fun j=>by
    simp[Array.getD_eq_getD_getElem?,Array.getElem?_replicate]
    split<;>rfl
  have hL0:(fun j=>(Array.replicate (⟨ops⟩:Array Oper).size false).getD j false)=fun _=>false:=funext hno
  refine main ops.length _ a _ (fun _=>undef) H O (by simp) (fun j hj=>by rw[hno] at hj;cases hj) (by rw[hL0];exact h0) ?_ ?_
  · rw[hL0]
    refine hR'.newEnv (l:=[]) (by simp) rfl (by have:=hR.size;simp[envAt] at this ⊢;exact this) (fun t e he=>?_)
    obtain⟨hlt,h | ⟨h,h'⟩⟩:=envAt_get he
    · obtain⟨j,hj,⟨hp,rfl⟩ | ⟨hp,rfl⟩⟩:=h
      · cases hp
      · exact trivial
    · exact hR'.env t e h'
  · unfold unl
    exact Nat.le_trans (List.length_filter_le _ _) (by simp)
end
end Go.Proofs.YtgbhgfdgifkdhaaGreat.X

namespace Go.Proofs.YtgbhgfdgifkdhaaGreat.X
open Go PH
def putAll (V : Nat→Value):List Oper→Nat→List En→(List En→Prop)→Prop
  | [],_,env,K=>K env
  | o::l,i,env,K=>match o.dst with
    | none=>putAll V l (i+1) env K
    | some d=>setK env d (.v (V i)) fun env=>putAll V l (i+1) env K
def putL (V : Nat→Value):List Oper→Nat→List En→List En
  | [],_,env=>env
  | o::l,i,env=>match o.dst with
    | none=>putL V l (i+1) env
    | some d=>putL V l (i+1) (env.set d (.v (V i)))
theorem putAll_put {V : Nat→Value}:∀ (l:List Oper) (i:Nat) (env:List En) (K:List En→Prop),putAll V l i env K→K (putL V l i env)
  | [],i,env,K,h=>h
  | o::l,i,env,K,h=>by
    unfold putAll at h
    unfold putL
    cases e:o.dst with
    | none=>
      rw[e] at h
      exact putAll_put l (i+1) env K h
    | some d=>
      rw[e] at h
      exact putAll_put l (i+1) _ K (setK_iff.1 h).2
theorem putL_len {V : Nat→Value}:∀ (l:List Oper) (i:Nat) (env:List En),(putL V l i env).length=env.length
  | [],i,env=>rfl
  | o::l,i,env=>by
    unfold putL
    cases o.dst with
    | none=>exact putL_len l (i+1) env
    | some d=>exact (putL_len l (i+1) _).trans (List.length_set ..)
theorem putL_no {V : Nat→Value} {t:Nat}:∀ (l:List Oper) (i:Nat) (env:List En),(∀ o∈l,o.dst ≠ some t)→(putL V l i env)[t]?=env[t]?
  | [],i,env,h=>rfl
  | o::l,i,env,h=>by
    have ho:=h o (List.mem_cons_self ..)
    have hl:∀ o∈l,o.dst ≠ some t:=fun o' h'=>h o' (List.mem_cons_of_mem _ h')
    unfold putL
    cases e:o.dst with
    | none=>exact putL_no l (i+1) env hl
    | some d=>
      have hne:d ≠ t:=fun e2=>ho (by rw[e,e2])
      exact (putL_no l (i+1) _ hl).trans (List.getElem?_set_ne hne)
theorem putL_at {V : Nat→Value} {t:Nat}:∀ (l:List Oper) (i:Nat) (env:List En) (j:Nat) (o:Oper),l[j]?=some o→o.dst=some t→(∀ j' o',l[j']?=some o'→o'.dst=some t→j'=j)→t < env.length→(putL V l i env)[t]?=some (.v (V (i+j)))
  | [],i,env,j,o,h,_,_,_=>by simp at h
  | x::l,i,env,0,o,h,hd,hu,ht=>by
    rw[List.getElem?_cons_zero] at h
    cases h
    unfold putL
    rw[hd]
    dsimp only
    rw[putL_no l (i+1) _ fun o' ho' hd'=>?_,List.getElem?_set_self ht]
    · rfl
    · obtain⟨q,hq⟩:=List.mem_iff_getElem?.1 ho'
      have:=hu (q+1) o' (by rw[List.getElem?_cons_succ];exact hq) hd'
      omega
  | x::l,i,env,j+1,o,h,hd,hu,ht=>by
    rw[List.getElem?_cons_succ] at h
    have hu':∀ j' o',l[j']?=some o'→o'.dst=some t→j'=j:=fun j' o' h1 h2=>by
      have:=hu (j'+1) o' (by rw[List.getElem?_cons_succ];exact h1) h2
      omega
    unfold putL
    cases e:x.dst with
    | none=>
      have:=putL_at (V:=V) l (i+1) env j o h hd hu' ht
      rw[show i+(j+1)=i+1+j by omega]
      exact this
    | some d=>
      have:=putL_at (V:=V) l (i+1) (env.set d (.v (V i))) j o h hd hu' (by rw[List.length_set];exact ht)
      rw[show i+(j+1)=i+1+j by omega]
      exact this
theorem putL_env {V : Nat→Value} {ops:List Oper} {env:List En} {n:Nat} (hc:okFree ops n=true):envAt ops env V (fun _=>true)=putL V ops 0 env:=by
  refine List.ext_getElem? fun t=>?_
  by_cases ht:t < env.length
  · rw[envAt_at ht]
    cases e:dstIdx ops t with
    | none=>
      have hno:∀ o∈ops,o.dst ≠ some t:=fun o ho hd=>by
        unfold dstIdx at e
        rw[List.findIdx?_eq_none_iff] at e
        have:=e o ho
        rw[hd] at this
        simp at this
      rw[putL_no _ _ _ hno]
      dsimp only
      rw[List.getD_eq_getElem?_getD,List.getElem?_eq_getElem ht,Option.getD_some]
    | some j=>
      have hj:=e
      unfold dstIdx at hj
      obtain⟨hjl,hjd,_⟩:=List.findIdx?_eq_some_iff_getElem.1 hj
      rw[putL_at ops 0 env j ops[j] (List.getElem?_eq_getElem hjl) (by simpa using hjd) (fun j' o' h1 h2=>?_) ht,Nat.zero_add]
      · rfl
      · have h3:=((okOp_ok (okFree_op hc h1)).dst t h2).2
        rw[e] at h3
        exact (Option.some.inj h3).symm
  · rw[List.getElem?_eq_none (by simp[envAt];omega),List.getElem?_eq_none (by rw[putL_len];omega)]
end Go.Proofs.YtgbhgfdgifkdhaaGreat.X

namespace Go.Proofs.YtgbhgfdgifkdhaaGreat.X
open Go PH
set_option maxRecDepth 100000
structure RI (H1 O1 : PH) (S:Nat→Value→PH→Prop) (k0:Nat) (T:Value→PH→PH→Prop) (T2:Value→Value→PH→PH→Prop) (L:Nat→Bool) (V:Nat→Value) (H O:PH):Prop where
  sub:Sub H1 H
  own:L k0=false→O=O1
  sp:∀ i,L i=true→S i (V i) H
  new:L k0=true→L (k0+1)=false→T (V k0) H O
  nxt:L (k0+1)=true→T2 (V k0) (V (k0+1)) H O
  bef:L (k0+1)=true→L k0=true
theorem setL_nq {L : Nat→Bool} {i k:Nat} (h:i ≠ k):setL L i k=L k:=by
  simp only[setL,beq_eq_false_iff_ne.2 (Ne.symm h),Bool.false_or]
theorem setV_nq {V : Nat→Value} {i k:Nat} {v:Value} (h:i ≠ k):setV V i v k=V k:=by
  simp only[setV,beq_eq_false_iff_ne.2 (Ne.symm h),cond_false]
theorem setL_aq {L : Nat→Bool} {i:Nat}:setL L i i=true:=by simp[setL]
theorem setV_aq {V : Nat→Value} {i:Nat} {v:Value}:setV V i v i=v:=by simp[setV]
theorem RI.step {H1 O1 : PH} {S:Nat→Value→PH→Prop} {k0:Nat} {T:Value→PH→PH→Prop} {T2:Value→Value→PH→PH→Prop} (up:∀ {i x H H'},S i x H→Sub H H'→S i x H') (upT:∀ {x H H' O},T x H O→Sub H H'→T x H' O) (upT2:∀ {x y H H' O},T2 x y H O→Sub H H'→T2 x y H' O)
    {L:Nat→Bool} {V:Nat→Value} {H O H':PH} (h:RI H1 O1 S k0 T T2 L V H O) {i:Nat} {v:Value} (hs:Sub H H') (h1:i ≠ k0) (h2:i ≠ k0+1) (hv:S i v H'):RI H1 O1 S k0 T T2 (setL L i) (setV V i v) H' O:=by
  refine⟨h.sub.trans hs,fun h'=>h.own (by rwa [setL_nq h1] at h'),fun k hk=>?_,fun h' h''=>?_,fun h'=>?_,fun h'=>?_⟩
  · by_cases e:i=k
    · subst e
      rw[setV_aq]
      exact hv
    · rw[setV_nq e]
      rw[setL_nq e] at hk
      exact up (h.sp k hk) hs
  · rw[setL_nq h1] at h'
    rw[setL_nq h2] at h''
    rw[setV_nq h1]
    exact upT (h.new h' h'') hs
  · rw[setL_nq h2] at h'
    rw[setV_nq h1,setV_nq h2]
    exact upT2 (h.nxt h') hs
  · rw[setL_nq h2] at h'
    rw[setL_nq h1]
    exact h.bef h'
theorem RI.done {H1 O1 : PH} {S:Nat→Value→PH→Prop} {k0:Nat} {T:Value→PH→PH→Prop} {T2:Value→Value→PH→PH→Prop} (up:∀ {i x H H'},S i x H→Sub H H'→S i x H')
    {L:Nat→Bool} {V:Nat→Value} {H O H' O':PH} (h:RI H1 O1 S k0 T T2 L V H O) (hl:L k0=true) {v:Value} (hs:Sub H H') (hv:S (k0+1) v H') (ht:T2 (V k0) v H' O'):RI H1 O1 S k0 T T2 (setL L (k0+1)) (setV V (k0+1) v) H' O':=by
  have hne:k0+1 ≠ k0:=by omega
  refine⟨h.sub.trans hs,fun h'=>(by rw[setL_nq hne,hl] at h';cases h'),fun k hk=>?_,fun h' h''=>(by rw[setL_aq] at h'';cases h''),fun h'=>by rw[setV_nq hne,setV_aq];exact ht,fun h'=>by rw[setL_nq hne];exact hl⟩
  by_cases e:k0+1=k
  · subst e
    rw[setV_aq]
    exact hv
  · rw[setV_nq e]
    rw[setL_nq e] at hk
    exact up (h.sp k hk) hs
theorem W_freeN {Γ : TypeId→TI} {P:Program} {r:Option Nat} {pol:Tmp→Pol} {ops:List Oper} {id:Nat} {env:List En} {loc:List (Option B)} {H O:PH} {KK:Exit→S→Prop} (hΓ:∀ t,TIOK P t (Γ t)) (hm:P.follows .mixedOrders=true) (n:Nat) (hc:okFree ops n=true) (hn:env.length=n)
    (I:(Nat→Bool)→(Nat→Value)→PH→PH→Prop) (h0:I (fun _=>false) (fun _=>undef) H O)
    (step:∀ (i:Nat) (o:Oper),ops[i]?=some o→∀ (L:Nat→Bool) (V:Nat→Value) (H' O':PH),I L V H' O'→L i=false→(∀ j,seesB ops o j=true→L j=true) →
      opK Γ P (pol (o.dst.getD 0)) o.op ⟨envAt ops env V (seesB ops o),loc,H',O'⟩ fun s' e=>(∃ l,s'.loc=loc++l)∧∃ v,e.val?=some v∧I (setL L i) (setV V i v) s'.H s'.O)
    (fin:∀ (L:Nat→Bool) (V:Nat→Value) (H' O':PH),I L V H' O'→(∀ j,j < ops.length→L j=true)→putAll V ops 0 env fun env'=>KK .normal ⟨env',loc,H',O'⟩) :
    W P r (.region id ⟨ops⟩ true) ⟨env,loc,H,O⟩ KK:=
  W_free hΓ hm n hc hn I h0 step fun L V H' O' hI hall=>by
    have:=putAll_put _ _ _ _ (fin L V H' O' hI hall)
    rwa [← putL_env hc] at this
def allOps (Q : Nat→Oper→Prop):Nat→List Oper→Prop
  | _,[]=>True
  | i,o::l=>Q i o∧allOps Q (i+1) l
theorem allOps_at {Q : Nat→Oper→Prop} (l:List Oper):∀ (n:Nat),allOps Q n l→∀ (i:Nat) (o:Oper),l[i]?=some o→Q (n+i) o:=by
  induction l with
  | nil=>intro n _ i o e;simp at e
  | cons x l ih=>
    intro n h i o e
    cases i with
    | zero=>
      rw[List.getElem?_cons_zero] at e
      cases e
      exact h.1
    | succ i=>
      rw[List.getElem?_cons_succ] at e
      have:=ih (n+1) h.2 i o e
      rwa [show n+(i+1)=n+1+i by omega]
theorem W_freeL {Γ : TypeId→TI} {P:Program} {r:Option Nat} {pol:Tmp→Pol} {ops:List Oper} {id:Nat} {env:List En} {loc:List (Option B)} {H O:PH} {KK:Exit→S→Prop} (hΓ:∀ t,TIOK P t (Γ t)) (hm:P.follows .mixedOrders=true) (n:Nat) (hc:okFree ops n=true) (hn:env.length=n)
    (I:(Nat→Bool)→(Nat→Value)→PH→PH→Prop) (h0:I (fun _=>false) (fun _=>undef) H O)
    (step:allOps (fun i o=>∀ (L:Nat→Bool) (V:Nat→Value) (H' O':PH),I L V H' O'→L i=false→(∀ j,seesB ops o j=true→L j=true) →
      opK Γ P (pol (o.dst.getD 0)) o.op ⟨envAt ops env V (seesB ops o),loc,H',O'⟩ fun s' e=>(∃ l,s'.loc=loc++l)∧∃ v,e.val?=some v∧I (setL L i) (setV V i v) s'.H s'.O) 0 ops)
    (fin:∀ (L:Nat→Bool) (V:Nat→Value) (H' O':PH),I L V H' O'→(∀ j,j < ops.length→L j=true)→putAll V ops 0 env fun env'=>KK .normal ⟨env',loc,H',O'⟩) :
    W P r (.region id ⟨ops⟩ true) ⟨env,loc,H,O⟩ KK:=
  W_freeN hΓ hm n hc hn I h0 (fun i o ho=>by have:=allOps_at _ _ step i o ho;rwa [Nat.zero_add] at this) fin
theorem W_hide {P : Program} {r:Option Nat} {c:Code} {s:S} {KK:Exit→S→Prop} (h:∀ K1:Exit→S→Prop,(∀ e s',KK e s'=K1 e s')→W P r c s K1):W P r c s KK:=h KK fun _ _=>rfl
end Go.Proofs.YtgbhgfdgifkdhaaGreat.X

namespace Go.Proofs.YtgbhgfdgifkdhaaGreat.X
open Go PH
set_option maxRecDepth 100000
theorem putL_envG {V : Nat→Value} {ops:List Oper} {env:List En} {n:Nat} (hc:okFreeG ops n=true):envAt ops env V (fun _=>true)=putL V ops 0 env:=by
  refine List.ext_getElem? fun t=>?_
  by_cases ht:t < env.length
  · rw[envAt_at ht]
    cases e:dstIdx ops t with
    | none=>
      have hno:∀ o∈ops,o.dst ≠ some t:=fun o ho hd=>by
        unfold dstIdx at e
        rw[List.findIdx?_eq_none_iff] at e
        have:=e o ho
        rw[hd] at this
        simp at this
      rw[putL_no _ _ _ hno]
      dsimp only
      rw[List.getD_eq_getElem?_getD,List.getElem?_eq_getElem ht,Option.getD_some]
    | some j=>
      have hj:=e
      unfold dstIdx at hj
      obtain⟨hjl,hjd,_⟩:=List.findIdx?_eq_some_iff_getElem.1 hj
      rw[putL_at ops 0 env j ops[j] (List.getElem?_eq_getElem hjl) (by simpa using hjd) (fun j' o' h1 h2=>?_) ht,Nat.zero_add]
      · rfl
      · have h3:=((okOpG_ok (okFreeG_op hc h1)).dst t h2).2
        rw[e] at h3
        exact (Option.some.inj h3).symm
  · rw[List.getElem?_eq_none (by simp[envAt];omega),List.getElem?_eq_none (by rw[putL_len];omega)]
theorem W_freeGL {Γ : TypeId→TI} {P:Program} {r:Option Nat} {pol:Tmp→Pol} {ops:List Oper} {id:Nat} {env:List En} {loc:List (Option B)} {H O:PH} {KK:Exit→S→Prop} (hΓ:∀ t,TIOK P t (Γ t)) (hm:P.follows .mixedOrders=true) (n:Nat) (hc:okFreeG ops n=true) (hn:env.length=n)
    (I:(Nat→Bool)→(Nat→Value)→PH→PH→Prop) (h0:I (fun _=>false) (fun _=>undef) H O)
    (gd:∀ (i:Nat) (o:Oper) (g:Nat) (b:Bool),ops[i]?=some o→o.guard=some (g,b)→∀ (L:Nat→Bool) (V:Nat→Value) (H' O':PH),I L V H' O'→L g=true→V g=.bool b)
    (step:allOps (fun i o=>∀ (L:Nat→Bool) (V:Nat→Value) (H' O':PH),I L V H' O'→L i=false→(∀ j,seesB ops o j=true→L j=true) →
      opK Γ P (pol (o.dst.getD 0)) o.op ⟨envAt ops env V (seesB ops o),loc,H',O'⟩ fun s' e=>(∃ l,s'.loc=loc++l)∧∃ v,e.val?=some v∧I (setL L i) (setV V i v) s'.H s'.O) 0 ops)
    (fin:∀ (L:Nat→Bool) (V:Nat→Value) (H' O':PH),I L V H' O'→(∀ j,j < ops.length→L j=true)→putAll V ops 0 env fun env'=>KK .normal ⟨env',loc,H',O'⟩) :
    W P r (.region id ⟨ops⟩ true) ⟨env,loc,H,O⟩ KK:=
  W_freeG hΓ hm n hc hn I h0 gd (fun i o ho=>by have:=allOps_at _ _ step i o ho;rwa [Nat.zero_add] at this) fun L V H' O' hI hall=>by
    have:=putAll_put _ _ _ _ (fin L V H' O' hI hall)
    rwa [← putL_envG hc] at this
structure FI (U0 : PH) (S:Nat→Value→PH→Prop) (L:Nat→Bool) (V:Nat→Value) (H O:PH):Prop where
  sub:Sub U0 (un H O)
  sp:∀ i,L i=true→S i (V i) (un H O)
theorem FI.step {U0 : PH} {S:Nat→Value→PH→Prop} (up:∀ {i x H H'},S i x H→Sub H H'→S i x H') {L:Nat→Bool} {V:Nat→Value} {H O H' O':PH} (h:FI U0 S L V H O) {i:Nat} {v:Value} (hs:Sub (un H O) (un H' O')) (hv:S i v (un H' O')):FI U0 S (setL L i) (setV V i v) H' O':=by
  refine⟨h.sub.trans hs,fun k hk=>?_⟩
  by_cases e:i=k
  · subst e
    rw[setV_aq]
    exact hv
  · rw[setV_nq e]
    rw[setL_nq e] at hk
    exact up (h.sp k hk) hs
theorem un_insH {H O : PH} {b:Nat} {o:Obj} (hb:H b=none) (hO:O b=none):Sub (un H O) (un (PH.ins H b o) O):=fun n x hn=>by
  unfold un at hn ⊢
  by_cases e:n=b
  · subst e
    rw[hb,hO] at hn
    cases hn
  · rw[ins_ne _ _ e]
    exact hn
theorem un_insO {H O : PH} {b:Nat} {o:Obj} (hb:H b=none) (hO:O b=none):Sub (un H O) (un H (PH.ins O b o)):=fun n x hn=>by
  unfold un at hn ⊢
  by_cases e:n=b
  · subst e
    rw[hb,hO] at hn
    cases hn
  · rw[ins_ne _ _ e]
    exact hn
theorem un_atH {H O : PH} {b:Nat} {o:Obj}:un (PH.ins H b o) O b=some o:=by
  unfold un
  rw[ins_same]
theorem un_atO {H O : PH} {b:Nat} {o:Obj} (hb:H b=none):un H (PH.ins O b o) b=some o:=by
  unfold un
  rw[hb]
  exact ins_same _ _ _
theorem un_emp (H : PH):Sub H (un H emp):=fun n o h=>by
  unfold un
  rw[h]
end Go.Proofs.YtgbhgfdgifkdhaaGreat.X
