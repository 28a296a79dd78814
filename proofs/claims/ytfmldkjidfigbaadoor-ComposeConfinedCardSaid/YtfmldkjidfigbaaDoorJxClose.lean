/-
  From a contract to a row: a law that answers true and leaves all that was there as it was.
-/
import Derived.Test.YtfmldkjidfigbaaDoorJxTop
import Derived.ProofKit
import Derived.ChangeSame
import Derived.Carry
namespace Go.Jx
open Go Go.RowKit Go.WideShapes Go.ChangeShapes Go.ChangeAt
set_option linter.unusedVariables false

section
variable {H : Type} {enc : TypeId × Value → H} {P : Program}

theorem trodAll_keeps (hl : laidOutB P = true) {W W' : World} (hb : Below W.heap.size W W') : ∀ {ts : List TypeId} {vs : List Value} {ds : List (DataW H)} {ps : List MemPlace}, (∀ t ∈ ts, P.readableRec t = true ∧ t < P.types.size) →
    DataW.TrodAll enc P W 0 (fun _ => true) true ts vs ds ps → (∀ x ∈ ps, x.block < W.heap.size) → ∀ sp : Nat → Bool, (∀ p ∈ ps, sp p.block = true) → DataW.TrodAll enc P W' 0 sp true ts vs ds ps
  | [], vs, ds, ps, _, h, _, _, _ => by
    obtain ⟨rfl, rfl, rfl⟩ := trodAll_nil h
    exact h
  | t :: ts, vs, ds, ps, hr, h, hlt, sp, hsp => by
    cases vs with
    | nil => cases ds <;> exact h.elim
    | cons v vs =>
      cases ds with
      | nil => exact h.elim
      | cons d ds =>
        obtain ⟨p, q, h1, h2, rfl⟩ := h
        refine ⟨p, q, ?_, trodAll_keeps hl hb (fun t ht => hr t (by simp [ht])) h2 (fun x hx => hlt x (by simp [hx])) sp (fun x hx => hsp x (by simp [hx])), rfl⟩
        exact WideElems.Trod_stays hl (hr t (by simp)).1 (hr t (by simp)).2 h1 (fun x hx => hb.same (hlt x (by simp [hx]))) (fun x hx => hsp x (by simp [hx]))

theorem law_post {f : Func} {s : ChangeSpec} {W W' : World} {args : Array Value} {ds gs : List (DataW H)} {before : List MemPlace} {bt : TypeId} (hl : laidOutB P = true) (hpar : ∀ t ∈ f.params.toList, P.readableRec t = true ∧ t < P.types.size)
    (hW : DataW.Whole enc P f.params.toList s.vars false W args.toList ds gs before) (hv : s.vars = []) (hfn : s.fn H ds = { results := [.lit (.bool true)], args := ds }) (hres : f.resultTypes = #[bt]) (hbt : P.underlying bt = some .bool)
    (hb : Below W.heap.size W W') : s.post enc P f false true false false W args (.bool true) W' := by
  have hlt : ∀ p ∈ before, p.block < W.heap.size := fun p hp => hW.lt p hp
  have hold : ∀ p ∈ before, (fun b => decide (b < W.heap.size)) p.block = true := fun p hp => by simpa using hlt p hp
  have hW' := hW
  obtain ⟨p, q, hA, hV, hpq, hz, hn⟩ := hW'
  rw [hv] at hV
  obtain ⟨rfl, rfl⟩ := trodVars_none hV
  rw [List.append_nil] at hpq
  subst hpq
  have hfn' : s.fn H (ds ++ []) = { results := [.lit (.bool true)], args := ds } := by rw [List.append_nil]; exact hfn
  have hargs : ∀ sp : Nat → Bool, (∀ x ∈ before, sp x.block = true) → DataW.TrodAll enc P W' 0 sp true f.params.toList args.toList (s.fn H (ds ++ [])).args before := by
    intro sp hsp
    rw [hfn']
    exact trodAll_keeps hl hb hpar hA hlt sp hsp
  have hres' : ∀ (b : Nat) (sp : Nat → Bool) (hd : Bool), DataW.TrodAll enc P W' b sp hd f.resultTypes.toList ((Value.bool true).resultList f.resultTypes.size) (s.fn H (ds ++ [])).results [] := by
    intro b sp hd
    rw [hfn', hres]
    exact trodAll_mk1 (shut_bool hbt true)
  have hvars : ∀ sp : Nat → Bool, DataW.TrodVars enc P W' sp s.vars (s.fn H (ds ++ [])).vars [] := by
    intro sp
    rw [hfn', hv]
    exact rfl
  have hok := ok_one (P := P) (W' := W') (f := f) (v := .bool true) hres rfl (okWide_bool_mk hbt true)
  refine ⟨ds, [], before, [], before, [], hW, hres' _ _ _, hargs _ hold, hvars _, World.keptBut_mono (fun p hp => ⟨hp, .inr (.inl hp)⟩) (hb.frame (· ∈ before)), fun _ => ?_⟩
  refine ⟨hok, _, _, (([] ++ before) ++ []), ⟨[] ++ before, [], trodAll_append (hargs _ (fun _ _ => rfl)) (hres' _ _ _), hvars _, rfl, ?_, ?_⟩, ?_⟩
  · intro b off hp
    have hin : MemPlace.cell b off ∈ before := by simpa using hp
    rw [hb.frozen (hlt _ hin)]
    exact hz b off hin
  · intro ha; cases ha
  · intro p hp _
    simpa using hp

end

/-- The functions' kinds, from a list: 0 it has a body, 1 'abi.NoEscape', 2 'bytealg.IndexByteString', 9 any other. -/
def exts (l : List Nat) : Exts := fun f => l.getD f 9

def checkX (P : Program) (l : List Nat) : Bool :=
  l.zipIdx.all fun x => x.1 != 0 || (match P.funcs[x.2]? with | some fn => fn.body.isSome && !(fn.name == "runtime.NumGoroutine") | none => false)

theorem extOk_of {P : Program} {l : List Nat} (h : checkX P l = true) (h1 : ∀ f, l.getD f 9 = 1 → ∀ x w, (callFunc f #[x]).run P w = .ok (.value x) w)
    (h2 : ∀ f, l.getD f 9 = 2 → ∀ s c w, (callFunc f #[.string s, .int .u8 c]).run P w = .ok (.value (.int .i64 (match (List.range s.size).find? fun i => s[i]! == UInt8.ofNat c.toNat with | some i => i | none => -1))) w) : ExtOk P (exts l) := by
  intro f
  refine ⟨fun h0 args w => ?_, h1 f, h2 f⟩
  have hf : l[f]? = some 0 := by
    unfold exts at h0
    cases hh : l[f]? with
    | none => simp [List.getD, hh] at h0
    | some v => simp [List.getD, hh] at h0; rw [h0]
  have hm : (0, f) ∈ l.zipIdx := by rw [List.mem_zipIdx_iff_getElem?]; exact hf
  have := List.all_eq_true.1 h (0, f) hm
  simp only [bne_self_eq_false, Bool.false_or] at this
  split at this
  · rename_i fn hfn
    simp only [Bool.and_eq_true, Bool.not_eq_true'] at this
    simp only [callFunc, Sem.run_bind, run_program, Result.andThen_ok, hfn, this.2, Bool.false_eq_true, if_false]
    have hb : fn.body.isNone = false := by
      cases hbb : fn.body with
      | none => rw [hbb] at this; simp at this
      | some b => rfl
    rw [hb]
    rfl
  · cases this

theorem extOk_plain {P : Program} {l : List Nat} (h : checkX P l = true) (hp : l.all (fun x => x == 0 || x == 9) = true) : ExtOk P (exts l) := by
  have key : ∀ f, l.getD f 9 = 0 ∨ l.getD f 9 = 9 := by
    intro f
    cases hh : l[f]? with
    | none => right; simp [List.getD, hh]
    | some v =>
      have := List.all_eq_true.1 hp v (List.mem_of_getElem? hh)
      simp only [Bool.or_eq_true, beq_iff_eq] at this
      simpa [List.getD, hh] using this
  refine extOk_of h (fun f hf => ?_) (fun f hf => ?_)
  · rcases key f with h | h <;> rw [h] at hf <;> cases hf
  · rcases key f with h | h <;> rw [h] at hf <;> cases hf

def H0 (G : Nat) : Heap := ⟨G, List.replicate G .dead⟩
def rho0 (G : Nat) : Rho := fun g => if g < G then some ⟨g, 0, 0⟩ else none

theorem H0_get (G id : Nat) (o : AO) (h : (H0 G).get id = some o) : o = .dead := by
  unfold Heap.get H0 at h
  simp only at h
  split at h
  · rw [List.getElem?_replicate] at h
    split at h <;> cases h
    rfl
  · cases h

theorem rel0 (P : Program) (W : World) (G : Nat) : Rel P W (rho0 G) (H0 G) W where
  below := Below.refl _ _
  wf := by simp [H0]
  dom := fun id t h => by
    unfold rho0 at h
    split at h
    · rename_i hh; exact hh
    · cases h
  objs := fun id t o _ h => by rw [H0_get G id o h]; trivial
  sep := fun id id' t t' o o' _ _ _ h _ ow _ => by rw [H0_get G id o h] at ow; exact ow.elim

/-- A law without arguments, by computing. -/
theorem calls_closed {P : Program} {X : Exts} {f : Nat} (hX : ExtOk P X) (n : Nat) {x : Ex} {v : AV} {H' : Heap} (h : run (mfun P X) n (.call f [] (H0 P.globals.size)) = some (x, [v], H')) (W : World) :
    Calls P f #[] W fun e W' => ∃ ρ' u, e = .returned u ∧ AVR ρ' v u ∧ Below W.heap.size W W' := by
  have := (all_ok (w0 := W) hX (mfun_ok P W X) n).2.2.2 f [] (H0 P.globals.size) x v H' h (rho0 P.globals.size) W [] (rel0 P W _) (fun g hg => by simp [rho0, hg]) trivial
  exact this.mono fun e W' ⟨ρ', u, h1, h2, h3, _⟩ => ⟨ρ', u, h1, h2, h3.below⟩

theorem closed_of_map {P : Program} {X : Exts} {f n : Nat} {H : Heap} (h : (run (mfun P X) n (.call f [] H)).map (fun o => o.2.1) = some [.sc (.bool true)]) : ∃ x H', run (mfun P X) n (.call f [] H) = some (x, [.sc (.bool true)], H') := by
  rw [Option.map_eq_some_iff] at h
  obtain ⟨⟨x, e, H'⟩, h1, h2⟩ := h
  simp only at h2
  subst h2
  exact ⟨x, H', h1⟩

end Go.Jx
