/-
  What the plain machine answers, the model answers: slots, results, calls.
-/
import Derived.Test.YtfmldkjidfigbaaDoorJxOpSim
import Derived.LoopN
namespace Go.Jx
open Go Go.RowKit
set_option linter.unusedSimpArgs false
set_option linter.unusedVariables false

/-- A function without arguments of which it is known that it answers true and leaves all as it was. -/
def knownM : MFunc := ⟨0, [.tmp 0], .known⟩

/-- The functions as the plain machine has them are the model's. -/
def FunOk (P : Program) (w0 : World) (X : Exts) (D : Nat → Option MFunc) : Prop :=
  ∀ f m, D f = some m → X f = 0 ∧ ((∃ fn c, P.funcs[f]? = some fn ∧ fn.body = some c ∧ cCode P X c = m.code ∧ fn.ntmps = m.ntmps ∧ cRess P fn.results.toList = some m.results) ∨
    (m = knownM ∧ ∀ w, Below w0.heap.size w0 w → Calls P f #[] w fun en w' => en = .returned (.bool true) ∧ Below w.heap.size w w'))

section
variable {P : Program} {w0 w : World} {ρ : Rho} {H : Heap} {e : List AV} {a : Act} {X : Exts} {D : Nat → Option MFunc}

theorem Cx.put (cx : Cx P w0 ρ H w e a) {ρ' : Rho} {H' : Heap} {w' : World} {v : AV} {u : Value} (hr : Rel P w0 ρ' H' w') (hx : Ext ρ H ρ' H') (hv : AVR ρ' v u) (dst : Option Nat) : Cx P w0 ρ' H' w' (Jx.put e dst v) (a.put dst u) where
  rel := hr
  er := by
    have := hx.er cx.er
    cases dst with
    | none => exact this
    | some d => simp only [Jx.put, Act.put, ER, Array.toList_setIfInBounds]; exact this.set d hv
  glob := fun g hg => hx.sub _ _ (cx.glob g hg)
  nodefer := by cases dst <;> exact cx.nodefer

theorem bool_of_AVR {x : AV} {c : Bool} (h : AVR ρ x (.bool c)) : x = .sc (.bool c) := by
  cases x with
  | sc s => cases s <;> simp [AVR, AVR1, SVR] at h <;> simp [h]
  | agg cs => obtain ⟨l, h, _⟩ := h; cases h
  | tup vs => obtain ⟨l, h, _⟩ := h; cases h

theorem boolIs_no {x : AV} (b : Bool) (h : ∀ c, x ≠ .sc (.bool c)) : boolIs x b = false := by
  unfold boolIs
  split
  · rename_i c; exact absurd rfl (h c)
  · rfl

theorem wanted_eq (cx : Cx P w0 ρ H w e a) {ops : Array Oper} {o : Oper} {g : Option (Nat × Bool)} (h : cGuard ops.toList o.guard = some g) : Region.wanted o (yielded ops a.tmps) = wantedA e g := by
  unfold Region.wanted
  cases hg : o.guard with
  | none => rw [hg] at h; cases h; rfl
  | some jb =>
    obtain ⟨j, b⟩ := jb
    rw [hg] at h
    simp only [cGuard] at h
    split at h
    · rename_i t ht
      cases h
      rw [Array.getElem?_toList] at ht
      simp only [wantedA, yielded, ht, Option.bind_some]
      have := cx.er.getD (AVR.undef ρ) t
      cases hv : a.tmps[t]? with
      | none =>
        have h2 : a.tmps.toList.getD t Go.undef = Go.undef := by simp [List.getD, hv]
        rw [h2] at this
        rw [boolIs_no (x := e.getD t undefA) b (fun c hc => by rw [hc] at this; cases this)]; rfl
      | some v =>
        have h2 : a.tmps.toList.getD t Go.undef = v := by simp [List.getD, hv]
        rw [h2] at this
        cases v with
        | bool c => rw [bool_of_AVR this]; rfl
        | _ => rw [boolIs_no (x := e.getD t undefA) b (fun c hc => by rw [hc] at this; cases this)]; rfl
    · cases h

theorem cOp_isCall {op : Op} {m : MOp} (hc : cOp P X op = some m) (hm : isCall m = true) : ∃ c, op = .call c ∧ cCall P X c = some m := by
  cases op <;> simp only [cOp] at hc
  case call c => exact ⟨c, rfl, hc⟩
  all_goals exfalso
  case alloc => simp only [Option.map_eq_some_iff] at hc; obtain ⟨r, hr, rfl⟩ := hc; simp [isCall] at hm
  case box => simp only [Option.map_eq_some_iff] at hc; obtain ⟨r, hr, rfl⟩ := hc; simp [isCall] at hm
  case buildSlice =>
    split at hc
    · split at hc
      · split at hc
        · simp only [Option.map_eq_some_iff] at hc; obtain ⟨r, hr, rfl⟩ := hc; simp [isCall] at hm
        · cases hc
      · cases hc
    · cases hc
  case load => split at hc <;> cases hc; simp [isCall] at hm
  case store => split at hc <;> cases hc; simp [isCall] at hm
  case convert => split at hc <;> cases hc; simp [isCall] at hm
  case makeSlice =>
    split at hc
    · split at hc
      · split at hc <;> cases hc; simp [isCall] at hm
      · cases hc
    · cases hc
  case slice t x lo hi mx =>
    cases mx with
    | some _ => simp at hc
    | none =>
      simp only [Option.isSome_none, Bool.false_eq_true, if_false] at hc
      split at hc
      · cases hc; simp [isCall] at hm
      · simp only [Option.map_eq_some_iff] at hc; obtain ⟨r, hr, rfl⟩ := hc; simp [isCall] at hm
      · simp only [Option.map_eq_some_iff] at hc; obtain ⟨r, hr, rfl⟩ := hc; simp [isCall] at hm
      · cases hc
  case range => split at hc <;> cases hc; simp [isCall] at hm
  case next x b =>
    cases b with
    | false => simp at hc
    | true => simp only [if_true, Option.map_eq_some_iff] at hc; obtain ⟨r, hr, rfl⟩ := hc; simp [isCall] at hm
  case move => simp only [Option.map_eq_some_iff] at hc; obtain ⟨r, hr, rfl⟩ := hc; simp [isCall] at hm
  case assign => simp only [Option.map_eq_some_iff] at hc; obtain ⟨r, hr, rfl⟩ := hc; simp [isCall] at hm
  case pick => split at hc <;> cases hc; simp [isCall] at hm
  case build =>
    split at hc
    · simp only [Option.map_eq_some_iff] at hc; obtain ⟨r, hr, hc⟩ := hc; split at hc <;> subst hc <;> simp [isCall] at hm
    · split at hc
      · simp only [Option.map_eq_some_iff] at hc; obtain ⟨r, hr, rfl⟩ := hc; simp [isCall] at hm
      · cases hc
    · cases hc
  case nilCheck => simp only [Option.map_eq_some_iff] at hc; obtain ⟨r, hr, rfl⟩ := hc; simp [isCall] at hm
  case binOp => split at hc <;> cases hc; simp [isCall] at hm
  case unOp => simp only [Option.map_eq_some_iff] at hc; obtain ⟨r, hr, rfl⟩ := hc; simp [isCall] at hm
  case makeFunc fn first caps =>
    split at hc
    · split at hc
      · simp only [Option.map_eq_some_iff] at hc; obtain ⟨r, hr, rfl⟩ := hc; simp [isCall] at hm
      · cases hc
    · cases hc
  case fieldAddr =>
    split at hc
    · split at hc
      · split at hc
        · split at hc <;> cases hc; simp [isCall] at hm
        · cases hc
      · cases hc
    · cases hc
  case field =>
    split at hc
    · split at hc
      · simp only [Option.map_eq_some_iff] at hc; obtain ⟨r, hr, rfl⟩ := hc; simp [isCall] at hm
      · cases hc
    · cases hc
  case indexAddr =>
    split at hc
    · simp only [Option.map_eq_some_iff] at hc; obtain ⟨r, hr, rfl⟩ := hc; simp [isCall] at hm
    · simp only [Option.map_eq_some_iff] at hc; obtain ⟨r, hr, rfl⟩ := hc; simp [isCall] at hm
    · cases hc
  case index =>
    split at hc
    · cases hc; simp [isCall] at hm
    · split at hc <;> cases hc; simp [isCall] at hm
    · cases hc
  case extract => simp only [Option.map_eq_some_iff] at hc; obtain ⟨r, hr, rfl⟩ := hc; simp [isCall] at hm
  all_goals cases hc

theorem caps_of_ptrs {caps : List (Nat × Nat)} : ∀ {l : List Value}, LR (fun (c : Nat × Nat) (u : Value) => ∃ t, ρ c.1 = some t ∧ u = .pointer (some (t.addr c.2))) caps l → LR (AVR ρ) (caps.map fun c => AV.sc (.ptr c.1 c.2)) l := by
  induction caps with
  | nil => intro l h; cases l with
    | nil => trivial
    | cons _ _ => exact h.elim
  | cons c caps ih => intro l h; cases l with
    | nil => exact h.elim
    | cons u l => exact ⟨h.1, ih h.2⟩

theorem call_enter (hX : ExtOk P X) (cx : Cx P w0 ρ H w e a) {o : Oper} {m : MOp} {f : Nat} {args : List AV} (hc : cOp P X o.op = some m) (hm : isCall m = true) (hcal : calleeA m e = some (f, args)) (h0 : X f = 0) :
    ∃ vs : List Value, (execOp a.eval o).run P w = .ok (.enter f vs.toArray) w ∧ LR (AVR ρ) args vs := by
  obtain ⟨c, hop, hcc⟩ := cOp_isCall hc hm
  have hexec : execOp a.eval o = (do let d ← resolve a.eval c o.type; invoke d.target d.args) := by unfold execOp; rw [hop]
  rw [hexec]
  unfold cCall at hcc
  split at hcc
  · rename_i g hcal2
    split at hcc
    · cases hcc
    · rename_i as has
      split at hcc
      · rename_i hg0
        cases hcc
        simp only [calleeA, Option.some.injEq, Prod.mk.injEq] at hcal
        obtain ⟨rfl, rfl⟩ := hcal
        refine ⟨c.args.toList.map a.eval, ?_, rnds_sound cx has⟩
        have : (do let d ← resolve a.eval c o.type; invoke d.target d.args : Sem Next).run P w = (callFunc g (c.args.toList.map a.eval).toArray).run P w := by
          simp only [resolve, hcal2, Act.eval, Deferred.ofValue, Sem.run_bind, Sem.run_pure, Result.andThen_ok, invoke]
          congr 2
          simp [← Array.toList_map]
        rw [this]
        exact (hX g).1 hg0 _ w
      · split at hcc <;> cases hcc; simp [isCall] at hm
      · split at hcc <;> cases hcc; simp [isCall] at hm
      · cases hcc
  · rename_i t hcal2
    simp only [Option.map_eq_some_iff] at hcc
    obtain ⟨as, has, rfl⟩ := hcc
    simp only [calleeA] at hcal
    split at hcal
    · rename_i g caps hx
      simp only [Option.some.injEq, Prod.mk.injEq] at hcal
      obtain ⟨rfl, rfl⟩ := hcal
      have hv := rnd_sound cx (x := .tmp t) (r := .t t) rfl
      rw [hx] at hv
      obtain ⟨l, hl, rl⟩ := hv
      refine ⟨c.args.toList.map a.eval ++ l, ?_, (rnds_sound cx has).append (caps_of_ptrs rl)⟩
      have : (do let d ← resolve a.eval c o.type; invoke d.target d.args : Sem Next).run P w = (callFunc g (c.args.toList.map a.eval ++ l).toArray).run P w := by
        simp only [resolve, hcal2, hl, Deferred.ofValue, Sem.run_bind, Sem.run_pure, Result.andThen_ok, invoke]
        congr 2
        apply Array.ext'
        simp
      rw [this]
      exact (hX g).1 h0 _ w
    · cases hcal
  · rename_i b hcal2
    exfalso
    split at hcc
    · split at hcc
      · split at hcc
        · split at hcc <;> cases hcc; simp [isCall] at hm
        · split at hcc <;> cases hcc; simp [isCall] at hm
        · cases hcc
      · cases hcc
    · split at hcc
      · simp only [Option.map_eq_some_iff] at hcc; obtain ⟨r, hr, rfl⟩ := hcc; simp [isCall] at hm
      · cases hcc
    · split at hcc
      · simp only [Option.map_eq_some_iff] at hcc; obtain ⟨r, hr, rfl⟩ := hcc; simp [isCall] at hm
      · cases hcc
    · split at hcc <;> cases hcc <;> simp [isCall] at hm
    · cases hcc; simp [isCall] at hm
    · cases hcc; simp [isCall] at hm
    · cases hcc; simp [isCall] at hm
    · split at hcc
      · split at hcc <;> cases hcc; simp [isCall] at hm
      · cases hcc
    · cases hcc
  · cases hcc

def exOf : Ex → Exit
  | .normal => .normal
  | .exit id => .exit id
  | .ret => .ret

def CodeOk (P : Program) (w0 : World) (X : Exts) (D : Nat → Option MFunc) (n : Nat) : Prop :=
  ∀ C e H x e' H', run D n (.code (cCode P X C) e H) = some (x, e', H') → ∀ ρ w a (Q : Exit → Act → World → Prop), Cx P w0 ρ H w e a →
    (∀ ρ' w' a', Cx P w0 ρ' H' w' e' a' → Ext ρ H ρ' H' → Q (exOf x) a' w') → C.wp P Q a w
def LoopOk (P : Program) (w0 : World) (X : Exts) (D : Nat → Option MFunc) (n : Nat) : Prop :=
  ∀ C e H x e' H', run D n (.code (.loop (cCode P X C)) e H) = some (x, e', H') → ∀ ρ w a (Q : Exit → Act → World → Prop), Cx P w0 ρ H w e a →
    (∀ ρ' w' a', Cx P w0 ρ' H' w' e' a' → Ext ρ H ρ' H' → Q (exOf x) a' w') → Code.rounds P C Q n a w
def OpsOk (P : Program) (w0 : World) (X : Exts) (D : Nat → Option MFunc) (n : Nat) : Prop :=
  ∀ (ops : Array Oper) (l : List Nat), (∀ i ∈ l, i < ops.size) → ∀ e H x e' H', run D n (.ops (l.map fun i => cOper P X ops.toList (ops.getD i default)) e H) = some (x, e', H') → ∀ ρ w a (Q : Exit → Act → World → Prop), Cx P w0 ρ H w e a →
    (∀ ρ' w' a', Cx P w0 ρ' H' w' e' a' → Ext ρ H ρ' H' → Q .normal a' w') → wpOps P ops Q l a w
/-- What a call leaves. -/
def Left (P : Program) (w0 : World) (ρ : Rho) (H : Heap) (v : AV) (H' : Heap) (en : Ending) (w' : World) : Prop :=
  ∃ ρ' u, en = .returned u ∧ AVR ρ' v u ∧ Rel P w0 ρ' H' w' ∧ Ext ρ H ρ' H'
def CallOk (P : Program) (w0 : World) (X : Exts) (D : Nat → Option MFunc) (n : Nat) : Prop :=
  ∀ f args H x v H', run D n (.call f args H) = some (x, [v], H') → ∀ ρ w (vs : List Value), Rel P w0 ρ H w → (∀ g, g < P.globals.size → ρ g = some ⟨g, 0, 0⟩) → LR (AVR ρ) args vs →
    Calls P f vs.toArray w (Left P w0 ρ H v H')

theorem results_sound (cx : Cx P w0 ρ H w e a) : ∀ {rs : List ResultVar} {ms : List MRes} {vs : List AV}, cRess P rs = some ms → resultsAll e H ms = some vs →
    ∃ us : List Value, (rs.mapM (m := Sem) fun | .tmp t => Pure.pure (a.tmps.getD t Go.undef) | .cell b t => do loadVar t (← asAddr (a.tmps.getD b Go.undef))).run P w = .ok us w ∧ LR (AVR ρ) vs us
  | [], ms, vs, h, h2 => by
    simp only [cRess, Option.some.injEq] at h; subst h
    simp only [resultsAll, Option.some.injEq] at h2; subst h2
    exact ⟨[], rfl, trivial⟩
  | r :: rs, ms, vs, h, h2 => by
    unfold cRess at h
    split at h
    · rename_i m ml hm hml
      cases h
      unfold resultsAll at h2
      split at h2
      · cases h2
      · rename_i v hv
        simp only [Option.map_eq_some_iff] at h2
        obtain ⟨vl, hvl, rfl⟩ := h2
        obtain ⟨us, hu, lu⟩ := results_sound cx hml hvl
        have one : ∃ u, (match r with | .tmp t => Pure.pure (a.tmps.getD t Go.undef) | .cell b t => do loadVar t (← asAddr (a.tmps.getD b Go.undef)) : Sem Value).run P w = .ok u w ∧ AVR ρ v u := by
          have hget : ∀ t, AVR ρ (e.getD t undefA) (a.tmps.getD t Go.undef) := by
            intro t
            have := cx.er.getD (AVR.undef ρ) t
            simpa [Array.getD_eq_getD_getElem?, List.getD] using this
          cases r with
          | tmp t =>
            simp only [cRes, Option.some.injEq] at hm; subst hm
            simp only [resultA, Option.some.injEq] at hv; subst hv
            exact ⟨_, rfl, hget t⟩
          | cell b t =>
            simp only [cRes, Option.map_eq_some_iff] at hm
            obtain ⟨g, hg, rfl⟩ := hm
            simp only [resultA] at hv
            obtain ⟨u, hu, au⟩ := load_sound cx.rel hg (hget b) hv
            refine ⟨u, ?_, au⟩
            have hp := hget b
            unfold loadA at hv
            split at hv
            · rename_i id off hx
              rw [hx] at hp
              obtain ⟨tg, ht, hp⟩ := hp
              change (do loadVar t (← asAddr (a.tmps.getD b Go.undef)) : Sem Value).run P w = _
              rw [hp] at hu ⊢
              exact hu
            · cases hv
        obtain ⟨u, h1, h3⟩ := one
        refine ⟨u :: us, ?_, h3, lu⟩
        rw [List.mapM_cons, bind_ok h1, bind_ok hu]
        rfl
    · cases h

theorem result_sound (cx : Cx P w0 ρ H w e a) {fn : Func} {ms : List MRes} {v : AV} (h : cRess P fn.results.toList = some ms) (hv : resultsA ms e H = some v) : ∃ u, (results fn a.tmps).run P w = .ok u w ∧ AVR ρ v u := by
  have key : ∀ vs, resultsAll e H ms = some vs → ∃ us : List Value, (fn.results.mapM (m := Sem) fun | .tmp t => Pure.pure (a.tmps.getD t Go.undef) | .cell b t => do loadVar t (← asAddr (a.tmps.getD b Go.undef))).run P w = .ok us.toArray w ∧ LR (AVR ρ) vs us := by
    intro vs hvs
    obtain ⟨us, h1, h2⟩ := results_sound cx h hvs
    refine ⟨us, ?_, h2⟩
    have : fn.results = fn.results.toList.toArray := by simp
    rw [this, List.mapM_toArray]
    rw [Sem.run_map, h1]
    rfl
  unfold resultsA at hv
  split at hv
  · rename_i v' hv'
    cases hv
    obtain ⟨us, h1, h2⟩ := key _ hv'
    obtain ⟨u, rfl, h3⟩ := h2.single
    refine ⟨u, ?_, h3⟩
    unfold results
    refine (bind_ok h1).trans ?_
    rfl
  · rename_i l hl hne
    split at hv
    · rename_i hall
      cases hv
      obtain ⟨us, h1, h2⟩ := key _ hne
      refine ⟨.tuple us.toArray, ?_, ⟨us, rfl, ?_⟩⟩
      · unfold results
        refine (bind_ok h1).trans ?_
        have : us.toArray.size ≠ 1 := by
          intro hh
          have hlen : l.length = 1 := by rw [h2.length]; simpa using hh
          match l, hlen with
          | [x], _ => exact hl x rfl
        rw [dif_neg this]
        rfl
      · clear hl hne key h1
        induction l generalizing us with
        | nil => cases us with
          | nil => trivial
          | cons _ _ => exact h2.elim
        | cons x l ih => cases us with
          | nil => exact h2.elim
          | cons u us =>
            simp only [List.all_cons, Bool.and_eq_true] at hall
            refine ⟨?_, ih hall.2 us h2.2⟩
            cases x with
            | sc s => exact h2.1
            | agg s => exact h2.1
            | tup s => simp [notTup] at hall
    · cases hv
  · cases hv

theorem exOf_then {n : Nat} {x : Ex} {e' : List AV} {H' : Heap} {Q : Exit → Act → World → Prop} {N : Act → World → Prop}
    (h1 : x = .normal → ∀ ρ' w' a', Cx P w0 ρ' H' w' e' a' → Ext ρ H ρ' H' → N a' w') (h2 : x ≠ .normal → ∀ ρ' w' a', Cx P w0 ρ' H' w' e' a' → Ext ρ H ρ' H' → Q (exOf x) a' w') :
    ∀ ρ' w' a', Cx P w0 ρ' H' w' e' a' → Ext ρ H ρ' H' → Exit.then N Q (exOf x) a' w' := by
  intro ρ' w' a' c x'
  cases x with
  | normal => exact h1 rfl _ _ _ c x'
  | exit id => exact h2 (by simp) _ _ _ c x'
  | ret => exact h2 (by simp) _ _ _ c x'

theorem cOper_cases (P : Program) (X : Exts) (ops : List Oper) (o : Oper) : (∃ m g, cOp P X o.op = some m ∧ cGuard ops o.guard = some g ∧ cOper P X ops o = ⟨o.dst, m, g⟩) ∨ cOper P X ops o = ⟨none, .bad, none⟩ := by
  cases hm : cOp P X o.op with
  | none => right; unfold cOper; rw [hm]
  | some m =>
    cases hg : cGuard ops o.guard with
    | none => right; unfold cOper; rw [hm, hg]
    | some g => left; exact ⟨m, g, rfl, rfl, by unfold cOper; rw [hm, hg]⟩

end
end Go.Jx
