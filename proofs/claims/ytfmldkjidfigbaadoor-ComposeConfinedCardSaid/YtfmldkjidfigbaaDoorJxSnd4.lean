/-
  'pure_sim': whatever the plain machine answers at an operation that looks at no memory, the model answers, and its world stays.
-/
import Derived.Test.YtfmldkjidfigbaaDoorJxSnd3
namespace Go.Jx
open Go Go.RowKit
set_option linter.unusedSimpArgs false
set_option linter.unusedVariables false

/-- What the functions without a body here do (Exts). -/
def ExtOk (P : Program) (X : Exts) : Prop :=
  ∀ f, (X f = 0 → ∀ args w, (callFunc f args).run P w = .ok (.enter f args) w) ∧
    (X f = 1 → ∀ x w, (callFunc f #[x]).run P w = .ok (.value x) w) ∧
    (X f = 2 → ∀ s c w, (callFunc f #[.string s, .int .u8 c]).run P w = .ok (.value (.int .i64 (match (List.range s.size).find? fun i => s[i]! == UInt8.ofNat c.toNat with | some i => i | none => -1))) w)

section
variable {P : Program} {w0 w : World} {ρ : Rho} {H : Heap} {e : List AV} {a : Act} {X : Exts}

theorem map_toArray_eval (l : List Operand) : (l.toArray.map a.eval) = (l.map a.eval).toArray := by simp

theorem fold_sound (f : AV → AV → Option AV) (g : Value → Value → Sem Value) (hfg : ∀ x y u v z, AVR ρ x u → AVR ρ y v → f x y = some z → ∃ r, (g u v).run P w = .ok r w ∧ AVR ρ z r) :
    ∀ (l : List AV) (m : List Value) (x : AV) (u : Value) (z : AV), LR (AVR ρ) l m → AVR ρ x u → foldA f x l = some z → ∃ r, (m.foldlM g u).run P w = .ok r w ∧ AVR ρ z r
  | [], [], x, u, z, _, hx, h => by simp [foldA] at h; subst h; exact ⟨u, rfl, hx⟩
  | y :: l, v :: m, x, u, z, hl, hx, h => by
    simp only [foldA] at h
    split at h
    · rename_i q hq
      obtain ⟨r, hr, ar⟩ := hfg x y u v q hx hl.1 hq
      obtain ⟨r', hr', ar'⟩ := fold_sound f g hfg l m q r z hl.2 ar h
      exact ⟨r', by simp only [List.foldlM_cons, Sem.run_bind, hr, Result.andThen_ok, hr'], ar'⟩
    · cases h
  | [], _ :: _, _, _, _, h, _, _ => h.elim
  | _ :: _, [], _, _, _, h, _, _ => h.elim

theorem min_sound (x y : AV) (u v : Value) (z : AV) (hx : AVR ρ x u) (hy : AVR ρ y v) (h : minA x y = some z) : ∃ r, (Builtin.min2 u v).run P w = .ok r w ∧ AVR ρ z r := by
  unfold minA at h
  split at h
  · cases hx; cases hy; cases h; exact ⟨_, rfl, rfl⟩
  · cases h
theorem max_sound (x y : AV) (u v : Value) (z : AV) (hx : AVR ρ x u) (hy : AVR ρ y v) (h : maxA x y = some z) : ∃ r, (Builtin.max2 u v).run P w = .ok r w ∧ AVR ρ z r := by
  unfold maxA at h
  split at h
  · cases hx; cases hy; cases h; exact ⟨_, rfl, rfl⟩
  · cases h

theorem caps_sound : ∀ {l : List AV} {m : List Value} {c : List (Nat × Nat)}, LR (AVR ρ) l m → capsA l = some c → LR (fun (c : Nat × Nat) (u : Value) => ∃ t, ρ c.1 = some t ∧ u = .pointer (some (t.addr c.2))) c m
  | [], [], c, _, h => by simp [capsA] at h; subst h; trivial
  | x :: l, v :: m, c, hl, h => by
    unfold capsA at h
    split at h
    · rename_i heq; cases heq
    · rename_i i o r heq
      cases heq
      simp only [Option.map_eq_some_iff] at h
      obtain ⟨c', hc, rfl⟩ := h
      exact ⟨hl.1, caps_sound hl.2 hc⟩
    · cases h
  | [], _ :: _, _, h, _ => h.elim
  | _ :: _, [], _, h, _ => h.elim

theorem part_sound {cs : List SV} {l : List Value} {t : TypeId} {g : Option Nat} {off : Nat} {v : AV} (hl : LR (SVR ρ) cs l) (hg : agg? P t = some g)
    (h : partA g cs off = some v) : ∃ r, (part t l.toArray off).run P w = .ok r w ∧ AVR ρ v r := by
  obtain ⟨h1, h2⟩ := run_isAgg (w := w) hg
  unfold partA at h
  cases g with
  | some n =>
    simp only [Option.map_eq_some_iff] at h
    obtain ⟨c, hc, rfl⟩ := h
    unfold readN at hc
    split at hc
    · cases hc
      refine ⟨.agg (l.toArray.extract off (off + n)), ?_, ⟨(l.drop off).take n, ?_, (hl.drop off).take n⟩⟩
      · simp only [part, Sem.run_bind, h1, Result.andThen_ok, Option.isSome_some, if_true, run_sizeOf (h2 n rfl), Sem.run_pure]
      · congr 1
        apply Array.ext'
        simp
    · cases hc
  | none =>
    simp only [Option.map_eq_some_iff] at h
    obtain ⟨c, hc, rfl⟩ := h
    obtain ⟨y, hy, r⟩ := hl.get hc
    refine ⟨y, ?_, r⟩
    simp only [part, Sem.run_bind, h1, Result.andThen_ok, Option.isSome_none, Bool.false_eq_true, if_false, List.getElem?_toArray, hy, Sem.run_pure]

theorem find_congr {α : Type} {p q : α → Bool} : ∀ {l : List α}, (∀ x ∈ l, p x = q x) → l.find? p = l.find? q
  | [], _ => rfl
  | x :: l, h => by
    simp only [List.find?_cons, h x (by simp)]
    rw [find_congr (l := l) fun y hy => h y (by simp [hy])]

theorem indexByte_eq (s : List UInt8) (c : Int) : (match (List.range (ByteArray.size ⟨s.toArray⟩)).find? fun i => (⟨s.toArray⟩ : ByteArray)[i]! == UInt8.ofNat c.toNat with | some i => (i : Int) | none => -1) = indexByteA s c := by
  unfold indexByteA
  have hz : (ByteArray.size ⟨s.toArray⟩) = s.length := by simp [ByteArray.size]
  rw [hz]
  rw [find_congr (q := fun i => s.getD i 0 == UInt8.ofNat c.toNat) ?_]
  · rfl
  intro i hi
  have hlt : i < s.length := by simpa using hi
  congr 1
  have h1 : i < (⟨s.toArray⟩ : ByteArray).size := by rw [hz]; exact hlt
  rw [getElem!_pos (⟨s.toArray⟩ : ByteArray) i h1]
  show (s.toArray)[i] = _
  simp [List.getD, hlt]

theorem cv_int {s d : TypeId} {k : IntKind} (h : cv? P s d = some (.int k)) : ∃ j, P.underlying s = some (.int j) ∧ P.underlying d = some (.int k) := by
  unfold cv? at h
  split at h
  · rename_i j k' h1 h2; simp only [Option.some.injEq, Cv.int.injEq] at h; subst h; exact ⟨j, h1, h2⟩
  all_goals (first | (simp at h; done) | (split at h <;> first | (simp at h; done) | (split at h <;> simp at h)))

theorem value_run {s : Sem Value} {u : Value} (h : s.run P w = .ok u w) : (do pure (.value (← s)) : Sem Next).run P w = .ok (.value u) w := by simp only [Sem.run_bind, h, Result.andThen_ok, Sem.run_pure]

theorem call_pure_sim (hX : ExtOk P X) (cx : Cx P w0 ρ H w e a) {o : Oper} {c : Call} {m : MOp} {v : AV} (hc : cCall P X c = some m) (h : pureA m e = some v) :
    ∃ u, (do let d ← resolve a.eval c o.type; invoke d.target d.args : Sem Next).run P w = .ok (.value u) w ∧ AVR ρ v u := by
  unfold cCall at hc
  split at hc
  · rename_i f hcal
    split at hc
    · cases hc
    · rename_i as has
      have hargs := rnds_sound cx has
      have hres : ∀ (z : Nat), X f = z → (do let d ← resolve a.eval c o.type; invoke d.target d.args : Sem Next).run P w = (callFunc f (c.args.toList.map a.eval).toArray).run P w := by
        intro z hz
        simp only [resolve, hcal, Act.eval, Deferred.ofValue, Sem.run_bind, Sem.run_pure, Result.andThen_ok, invoke]
        congr 2
        simp [← Array.toList_map]
      split at hc
      · cases hc; simp [pureA] at h
      · rename_i hz
        split at hc
        · rename_i x
          cases hc
          simp only [pureA, Option.some.injEq] at h; subst h
          rw [hres 1 hz]
          generalize c.args.toList.map a.eval = l at hargs
          obtain ⟨y, rfl, hy⟩ := hargs.single
          exact ⟨y, (hX f).2.1 hz y w, hy⟩
        · cases hc
      · rename_i hz
        split at hc
        · rename_i x y
          cases hc
          simp only [pureA] at h
          rw [hres 2 hz]
          generalize c.args.toList.map a.eval = l at hargs
          match l, hargs with
          | [u, z], hargs =>
            split at h
            · rename_i s c' hs hcc
              cases h
              have e1 := hargs.1
              have e2 := hargs.2.1
              rw [hs] at e1; rw [hcc] at e2
              have e1 : u = .string ⟨s.toArray⟩ := e1
              have e2 : z = .int .u8 c' := e2
              subst e1; subst e2
              refine ⟨_, (hX f).2.2 hz _ _ w, ?_⟩
              rw [indexByte_eq]; rfl
            · cases h
        · cases hc
      · cases hc
  · simp only [Option.map_eq_some_iff] at hc
    obtain ⟨as, has, rfl⟩ := hc
    simp [pureA] at h
  · rename_i b hcal
    have hres : (do let d ← resolve a.eval c o.type; invoke d.target d.args : Sem Next).run P w = (builtin b c.argTypes o.type (c.args.map fun | .const _ => true | _ => false) (c.args.toList.map a.eval).toArray).run P w := by
      simp only [resolve, hcal, Sem.run_bind, Sem.run_pure, Result.andThen_ok, invoke]
      congr 2
      simp [← Array.toList_map]
    rw [hres]
    generalize (c.args.map fun | .const _ => true | _ => false) = cts
    split at hc
    · split at hc
      · split at hc
        · split at hc
          · cases hc; simp [pureA] at h
          · cases hc
        · split at hc
          · cases hc; simp [pureA] at h
          · cases hc
        · cases hc
      · cases hc
    · split at hc
      · simp only [Option.map_eq_some_iff] at hc
        obtain ⟨n, hn, rfl⟩ := hc
        simp [pureA] at h
      · cases hc
    · split at hc
      · simp only [Option.map_eq_some_iff] at hc
        obtain ⟨n, hn, rfl⟩ := hc
        simp [pureA] at h
      · cases hc
    · rename_i x t has ht
      have hargs := rnds_sound cx has
      generalize c.args.toList.map a.eval = l at hargs
      obtain ⟨y, rfl, hy⟩ := hargs.single
      split at hc
      · rename_i hu
        cases hc
        simp only [pureA] at h
        split at h
        · rename_i s hs
          cases h
          rw [hs] at hy
          have hy : y = .string ⟨s.toArray⟩ := hy
          subst hy
          refine ⟨_, value_run (u := .int .i64 s.length) ?_, rfl⟩
          have hz : (ByteArray.size ⟨s.toArray⟩) = s.length := by simp [ByteArray.size]
          simp only [Builtin.len_, ht, List.getElem?_toArray, List.getElem?_cons_zero, Sem.run_bind, Sem.run_pure, Result.andThen_ok, run_underlying hu, goInt, hz]
        · cases h
      · rename_i el hu
        cases hc
        simp only [pureA] at h
        split at h
        · rename_i hs; cases h
          rw [hs] at hy
          have hy : y = .slice none 0 0 := hy
          subst hy
          refine ⟨_, value_run (u := .int .i64 0) ?_, rfl⟩
          simp only [Builtin.len_, ht, List.getElem?_toArray, List.getElem?_cons_zero, Sem.run_bind, Sem.run_pure, Result.andThen_ok, run_underlying hu, goInt]
          rfl
        · rename_i kn hs; cases h
          rw [hs] at hy
          obtain ⟨ad, cp, hy, _⟩ := hy
          subst hy
          refine ⟨_, value_run (u := .int .i64 0) ?_, rfl⟩
          simp only [Builtin.len_, ht, List.getElem?_toArray, List.getElem?_cons_zero, Sem.run_bind, Sem.run_pure, Result.andThen_ok, run_underlying hu, goInt]
          rfl
        · rename_i id off len cap hs; cases h
          rw [hs] at hy
          obtain ⟨tg, htg, hy⟩ := hy
          subst hy
          refine ⟨_, value_run (u := .int .i64 len) ?_, rfl⟩
          simp only [Builtin.len_, ht, List.getElem?_toArray, List.getElem?_cons_zero, Sem.run_bind, Sem.run_pure, Result.andThen_ok, run_underlying hu, goInt]
        · cases h
      · rename_i n el hu
        cases hc
        simp only [pureA, Option.some.injEq] at h; subst h
        refine ⟨_, value_run (u := .int .i64 n) ?_, rfl⟩
        simp only [Builtin.len_, ht, List.getElem?_toArray, List.getElem?_cons_zero, Sem.run_bind, Sem.run_pure, Result.andThen_ok, run_underlying hu, goInt]
      · cases hc
    · rename_i xs has
      cases hc
      have hargs := rnds_sound cx has
      generalize c.args.toList.map a.eval = l at hargs
      simp only [pureA] at h
      split at h
      · rename_i x r hxr
        rw [hxr] at hargs
        match l, hargs with
        | u :: m, hargs =>
          obtain ⟨z, hz, az⟩ := fold_sound minA Builtin.min2 (fun x y u v z => min_sound x y u v z) r m x u v hargs.2 hargs.1 h
          exact ⟨z, value_run (by simpa only [Builtin.min_] using hz), az⟩
      · cases h
    · rename_i xs has
      cases hc
      have hargs := rnds_sound cx has
      generalize c.args.toList.map a.eval = l at hargs
      simp only [pureA] at h
      split at h
      · rename_i x r hxr
        rw [hxr] at hargs
        match l, hargs with
        | u :: m, hargs =>
          obtain ⟨z, hz, az⟩ := fold_sound maxA Builtin.max2 (fun x y u v z => max_sound x y u v z) r m x u v hargs.2 hargs.1 h
          exact ⟨z, value_run (by simpa only [Builtin.max_] using hz), az⟩
      · cases h
    · cases hc; simp [pureA] at h
    · split at hc
      · split at hc
        · cases hc; simp [pureA] at h
        · cases hc
      · cases hc
    · cases hc
  · cases hc

theorem bind_ok {α β : Type} {x : Sem α} {f : α → Sem β} {u : α} {w' : World} (h : x.run P w = .ok u w') : (x >>= f).run P w = (f u).run P w' := by rw [Sem.run_bind, h, Result.andThen_ok]

theorem slice_pure (cx : Cx P w0 ρ H w e a) {t el : TypeId} {size : Nat} {x v : AV} {u : Value} {lo hi : Option Rnd} {lo' hi' : Option Operand} (hu : P.underlying t = some (.slice el)) (hn : size? P el = some size)
    (hl : rndOpt? P lo' = some lo) (hh : rndOpt? P hi' = some hi) (hx : AVR ρ x u) (h : sliceA size x (lo.map (rd e)) (hi.map (rd e)) = some v) :
    ∃ z, (Instr.sliceAt t u (lo'.map a.eval) (hi'.map a.eval) none).run P w = .ok z w ∧ AVR ρ v z := by
  have hr := cx.rel
  have head : ∀ (ad : Option Addr) (len cap l g : Nat), u = .slice ad len cap → (Instr.sliceBounds true len cap (lo'.map a.eval) (hi'.map a.eval) none).run P w = .ok (l, g, cap) w →
      (Instr.sliceAt t u (lo'.map a.eval) (hi'.map a.eval) none).run P w = .ok (.slice (if cap = l then ad else ad.map (·.add (l * size))) (g - l) (cap - l)) w := by
    intro ad len cap l g e1 hb
    subst e1
    unfold Instr.sliceAt
    rw [bind_ok (run_underlying hu)]
    try dsimp only
    unfold Instr.slice
    rw [bind_ok (run_underlying hu)]
    try dsimp only
    rw [bind_ok hb]
    try dsimp only
    rw [bind_ok (run_sizeOf hn)]
    rfl
  unfold sliceA at h
  split at h
  · simp only [Option.map_eq_some_iff] at h
    obtain ⟨b, hb, rfl⟩ := h
    obtain ⟨b1, b2, b3⟩ := bounds_sound (b := true) (cap' := 0) cx hl hh hb (Nat.le_refl _)
    have hx : u = .slice none 0 0 := hx
    refine ⟨_, head none 0 0 b.1 b.2 hx b1, ?_⟩
    have : b.1 = 0 := by omega
    have : b.2 = 0 := by omega
    simp_all [AVR, AVR1, SVR]
  · rename_i kn
    simp only [Option.map_eq_some_iff] at h
    obtain ⟨b, hb, rfl⟩ := h
    obtain ⟨ad, c, hx, hk⟩ := hx
    obtain ⟨b1, b2, b3⟩ := bounds_sound (b := true) (cap' := c) cx hl hh hb (Nat.zero_le _)
    refine ⟨_, head (some ad) 0 c b.1 b.2 hx b1, ?_⟩
    have h1 : b.1 = 0 := by omega
    have h2 : b.2 = 0 := by omega
    rw [h1, h2]
    by_cases hc : c = 0
    · exact ⟨ad, 0, by simp [hc], fun _ => rfl⟩
    · exact ⟨ad.add (0 * size), c, by simp [hc], fun hh => hk hh⟩
  · rename_i id off len cap
    obtain ⟨tg, ht, hx⟩ := hx
    split at h
    · cases h
    · rename_i l g hb
      obtain ⟨b1, b2, b3⟩ := bounds_sound (b := true) (cap' := cap + tg.extra) cx hl hh hb (Nat.le_add_right _ _)
      have hd := head _ len (cap + tg.extra) l g hx b1
      split at h
      · rename_i hlc
        cases h
        by_cases hex : tg.extra = 0
        · refine ⟨_, hd, ⟨tg.addr off, 0, ?_, fun h => by cases h⟩⟩
          rw [if_pos (by omega)]
          congr 1 <;> omega
        · refine ⟨_, hd, ⟨(tg.addr off).add (l * size), cap + tg.extra - l, ?_, fun h => by cases h⟩⟩
          rw [if_neg (by omega)]
          simp only [Option.map_some]
          congr 1; omega
      · rename_i hlc
        cases h
        refine ⟨_, hd, ⟨tg, ht, ?_⟩⟩
        by_cases hcl : cap + tg.extra = l
        · have h0 : l = 0 := by omega
          have : cap = 0 := by omega
          have : tg.extra = 0 := by omega
          simp_all
        · rw [if_neg hcl]
          simp only [Option.map_some, addr_add]
          congr 1
          omega
  · cases h

theorem pure_sim (hX : ExtOk P X) (cx : Cx P w0 ρ H w e a) {o : Oper} {m : MOp} {v : AV} (hc : cOp P X o.op = some m) (h : pureA m e = some v) :
    ∃ u, (execOp a.eval o).run P w = .ok (.value u) w ∧ AVR ρ v u := by
  unfold execOp
  cases hop : o.op <;> rw [hop] at hc <;> simp only [cOp] at hc
  case move x =>
    simp only [Option.map_eq_some_iff] at hc
    obtain ⟨r, hr, rfl⟩ := hc
    simp only [pureA, Option.some.injEq] at h; subst h
    exact ⟨_, rfl, rnd_sound cx hr⟩
  case assign x =>
    simp only [Option.map_eq_some_iff] at hc
    obtain ⟨r, hr, rfl⟩ := hc
    simp only [pureA, Option.some.injEq] at h; subst h
    exact ⟨_, rfl, rnd_sound cx hr⟩
  case pick c x y =>
    split at hc
    · rename_i c' x' y' h1 h2 h3
      cases hc
      simp only [pureA] at h
      split at h
      · rename_i t ht
        cases h
        have := rnd_sound cx h1
        rw [ht] at this
        have this : a.eval c = .bool t := this
        refine ⟨if t then a.eval x else a.eval y, ?_, ?_⟩
        · simp only [this, asBool, Sem.run_bind, Sem.run_pure, Result.andThen_ok]
        · cases t
          · exact rnd_sound cx h3
          · exact rnd_sound cx h2
      · cases h
    · cases hc
  case alloc t =>
    simp only [Option.map_eq_some_iff] at hc
    obtain ⟨r, hr, rfl⟩ := hc
    simp [pureA] at h
  case box t x =>
    simp only [Option.map_eq_some_iff] at hc
    obtain ⟨r, hr, rfl⟩ := hc
    simp [pureA] at h
  case build t ps =>
    split at hc
    · rename_i z fs hz hu
      simp only [Option.map_eq_some_iff] at hc
      obtain ⟨l, hl, hc⟩ := hc
      split at hc
      · rename_i hs
        subst hc
        simp only [pureA, Option.map_eq_some_iff] at h
        obtain ⟨cs, hcs, rfl⟩ := h
        obtain ⟨u, hu', au⟩ := build_struct (w := w) cx hz hu hl hs hcs
        exact ⟨u, value_run hu', au⟩
      · subst hc; simp [pureA] at h
    · rename_i z n el hz hu
      split at hc
      · rename_i sz hn
        simp only [Option.map_eq_some_iff] at hc
        obtain ⟨l, hl, rfl⟩ := hc
        simp only [pureA, Option.map_eq_some_iff] at h
        obtain ⟨cs, hcs, rfl⟩ := h
        obtain ⟨u, hu', au⟩ := build_array (w := w) cx hz hu hn hl hcs
        exact ⟨u, value_run hu', au⟩
      · cases hc
    · cases hc
  case buildSlice t n ps =>
    split at hc
    · split at hc
      · split at hc
        · simp only [Option.map_eq_some_iff] at hc
          obtain ⟨r, hr, rfl⟩ := hc
          simp [pureA] at h
        · cases hc
      · cases hc
    · cases hc
  case load t x =>
    split at hc
    · cases hc; simp [pureA] at h
    · cases hc
  case store t x y =>
    split at hc
    · cases hc; simp [pureA] at h
    · cases hc
  case nilCheck x =>
    simp only [Option.map_eq_some_iff] at hc
    obtain ⟨r, hr, rfl⟩ := hc
    simp only [pureA] at h
    have := rnd_sound cx hr
    split at h
    · rename_i hx; rw [hx] at this
      obtain ⟨t, ht, ha⟩ := this
      cases h
      exact ⟨_, by simp only [ha, Sem.run_pure], ⟨t, ht, rfl⟩⟩
    · rename_i hx; rw [hx] at this
      obtain ⟨l, hl, ha⟩ := this
      cases h
      exact ⟨_, by simp only [hl, Sem.run_pure], ⟨l, rfl, ha⟩⟩
    · cases h
  case binOp op t x y yt =>
    split at hc
    · rename_i q r s hq hr hs
      cases hc
      obtain ⟨u, hu, au⟩ := bin_sound (w := w) cx hq hr hs h
      exact ⟨u, value_run hu, au⟩
    · cases hc
  case unOp op t x =>
    simp only [Option.map_eq_some_iff] at hc
    obtain ⟨r, hr, rfl⟩ := hc
    obtain ⟨u, hu, au⟩ := un_sound (P := P) (w := w) (rnd_sound cx hr) h
    exact ⟨u, value_run hu, au⟩
  case convert s d x =>
    split at hc
    · rename_i c r hcv hr
      cases hc
      cases c with
      | int j =>
        obtain ⟨k, hs, hd⟩ := cv_int hcv
        simp only [pureA] at h
        split at h
        · rename_i j' n hx
          cases h
          have := rnd_sound cx hr
          rw [hx] at this
          have this : a.eval x = .int j' n := this
          refine ⟨.int j (j.wrap n), value_run ?_, rfl⟩
          simp only [convert, Sem.run_bind, run_underlying hs, run_underlying hd, Result.andThen_ok, this, Conv.intToInt, Sem.run_pure]
        · cases h
      | _ => simp [pureA] at h
    · cases hc
  case makeFunc fn first caps =>
    split at hc
    · rename_i f
      split at hc
      · rename_i hf
        simp only [Option.map_eq_some_iff] at hc
        obtain ⟨l, hl, rfl⟩ := hc
        simp only [pureA, Option.map_eq_some_iff] at h
        obtain ⟨c, hcp, rfl⟩ := h
        have := caps_sound (rnds_sound cx hl) hcp
        have hf0 : first = #[] := Array.eq_empty_of_size_eq_zero hf
        subst hf0
        exact ⟨_, rfl, ⟨_, by simp [← Array.toList_map], this⟩⟩
      · cases hc
    · cases hc
  case makeSlice t x y =>
    split at hc
    · split at hc
      · split at hc
        · cases hc; simp [pureA] at h
        · cases hc
      · cases hc
    · cases hc
  case slice t x lo hi mx =>
    cases mx with
    | some _ => simp at hc
    | none =>
      simp only [Option.isSome_none, Bool.false_eq_true, if_false] at hc
      split at hc
      · rename_i x' lo' hi' hu hx hlo hhi
        cases hc
        simp only [pureA] at h
        split at h
        · rename_i s hs
          simp only [Option.map_eq_some_iff] at h
          obtain ⟨b, hb, rfl⟩ := h
          have := rnd_sound cx hx
          rw [hs] at this
          have this : a.eval x = .string ⟨s.toArray⟩ := this
          obtain ⟨hbd, h1, h2⟩ := bounds_sound (b := false) (cap' := s.length) cx hlo hhi hb (Nat.le_refl _)
          refine ⟨.string ⟨((s.take b.2).drop b.1).toArray⟩, value_run ?_, rfl⟩
          have hz : (ByteArray.size ⟨s.toArray⟩) = s.length := by simp [ByteArray.size]
          simp only [Instr.sliceAt, Sem.run_bind, run_underlying hu, Result.andThen_ok, Instr.slice, this, Option.map_none, Option.isSome_none, Bool.false_eq_true, if_false, Sem.run_pure, hz, hbd, bytes_take_drop]
        · cases h
      · rename_i el x' lo' hi' hu hx hlo hhi
        simp only [Option.map_eq_some_iff] at hc
        obtain ⟨n, hn, rfl⟩ := hc
        simp only [pureA] at h
        obtain ⟨z, hz, hz2⟩ := slice_pure cx hu hn hlo hhi (rnd_sound cx hx) h
        exact ⟨z, value_run hz, hz2⟩
      · simp only [Option.map_eq_some_iff] at hc
        obtain ⟨n, hn, rfl⟩ := hc
        simp [pureA] at h
      · cases hc
  case fieldAddr t x f =>
    split at hc
    · rename_i fs r hu hr
      split at hc
      · rename_i g hg
        split at hc
        · rename_i n hn
          split at hc
          · cases hc
          · rename_i h0
            cases hc
            simp only [pureA] at h
            split at h
            · rename_i i off hx
              cases h
              have := rnd_sound cx hr
              rw [hx] at this
              obtain ⟨tg, ht, this⟩ := this
              refine ⟨_, value_run ?_, ⟨tg, ht, rfl⟩⟩
              simp only [Instr.fieldAt, Sem.run_bind, run_underlying hu, Result.andThen_ok, hg, this, Instr.sureAddr, Sem.run_pure, fieldPlace, run_sizeOf hn, h0, if_false, addr_add]
            · cases h
        · cases hc
      · cases hc
    · cases hc
  case field t x f =>
    split at hc
    · rename_i fs r hu hr
      split at hc
      · rename_i g hg
        simp only [Option.map_eq_some_iff] at hc
        obtain ⟨ag, hag, rfl⟩ := hc
        simp only [pureA] at h
        split at h
        · rename_i cs hx
          have := rnd_sound cx hr
          rw [hx] at this
          obtain ⟨l, hl, rl⟩ := this
          obtain ⟨u, hu', au⟩ := part_sound (P := P) (w := w) rl hag h
          refine ⟨u, value_run ?_, au⟩
          simp only [Instr.field, Sem.run_bind, run_underlying hu, Result.andThen_ok, hg, hl, asAgg, Sem.run_pure, hu']
        · cases h
      · cases hc
    · cases hc
  case indexAddr t x i =>
    split at hc
    · rename_i el x' i' hu hx hi
      simp only [Option.map_eq_some_iff] at hc
      obtain ⟨n, hn, rfl⟩ := hc
      simp only [pureA] at h
      split at h
      · rename_i id off len cap hs
        simp only [Option.map_eq_some_iff] at h
        obtain ⟨k, hk, rfl⟩ := h
        have := rnd_sound cx hx
        rw [hs] at this
        obtain ⟨tg, ht, this⟩ := this
        obtain ⟨ik, iv, e1, e2, e3, e4⟩ := idx_sound (rnd_sound cx hi) hk
        refine ⟨_, value_run ?_, ⟨tg, ht, rfl⟩⟩
        simp only [Instr.indexAt, e1, asIntOf, Sem.run_bind, Sem.run_pure, Result.andThen_ok, run_underlying hu, this]
        rw [if_pos ⟨e2, e3⟩]
        simp only [Sem.run_bind, run_sizeOf hn, Result.andThen_ok, Sem.run_pure, addr_add, e4]
      · cases h
    · rename_i len el x' i' hu hx hi
      simp only [Option.map_eq_some_iff] at hc
      obtain ⟨n, hn, rfl⟩ := hc
      simp only [pureA] at h
      split at h
      · rename_i id off hs
        simp only [Option.map_eq_some_iff] at h
        obtain ⟨k, hk, rfl⟩ := h
        have := rnd_sound cx hx
        rw [hs] at this
        obtain ⟨tg, ht, this⟩ := this
        obtain ⟨ik, iv, e1, e2, e3, e4⟩ := idx_sound (rnd_sound cx hi) hk
        refine ⟨_, value_run ?_, ⟨tg, ht, rfl⟩⟩
        simp only [Instr.indexAt, e1, asIntOf, Sem.run_bind, Sem.run_pure, Result.andThen_ok, run_underlying hu, this, Instr.sureAddr]
        rw [if_pos ⟨e2, e3⟩]
        simp only [Sem.run_bind, run_sizeOf hn, Result.andThen_ok, Sem.run_pure, addr_add, e4]
      · cases h
    · cases hc
  case index t x i =>
    split at hc
    · rename_i x' i' hu hx hi
      cases hc
      simp only [pureA] at h
      split at h
      · rename_i s k n hs hn
        split at h
        · rename_i hn0
          simp only [Option.map_eq_some_iff] at h
          obtain ⟨b, hb, rfl⟩ := h
          have e1 := rnd_sound cx hx
          have e2 := rnd_sound cx hi
          rw [hs] at e1; rw [hn] at e2
          have e1 : a.eval x = .string ⟨s.toArray⟩ := e1
          have e2 : a.eval i = .int k n := e2
          refine ⟨_, value_run ?_, rfl⟩
          have hb' : (⟨s.toArray⟩ : ByteArray)[n.toNat]? = some b := by
            have hlt := (List.getElem?_eq_some_iff.1 hb).1
            have hz : (ByteArray.size ⟨s.toArray⟩) = s.length := by simp [ByteArray.size]
            rw [getElem?_pos _ _ (by rw [hz]; exact hlt)]
            have := (List.getElem?_eq_some_iff.1 hb).2
            congr 1
          simp only [Instr.index, e1, e2, asIntOf, Sem.run_bind, Sem.run_pure, Result.andThen_ok, run_underlying hu, hn0, if_true, hb']
        · cases h
      · cases h
    · rename_i len el x' i' hu hx hi
      split at hc
      · rename_i n g hn hg
        cases hc
        simp only [pureA] at h
        split at h
        · rename_i cs hs
          split at h
          · rename_i k hk
            have e1 := rnd_sound cx hx
            rw [hs] at e1
            obtain ⟨l, e1, rl⟩ := e1
            obtain ⟨ik, iv, f1, f2, f3, f4⟩ := idx_sound (rnd_sound cx hi) hk
            obtain ⟨u, hu', au⟩ := part_sound (P := P) (w := w) rl hg h
            refine ⟨u, value_run ?_, au⟩
            simp only [Instr.index, e1, f1, asIntOf, Sem.run_bind, Sem.run_pure, Result.andThen_ok, run_underlying hu]
            rw [if_pos ⟨f2, f3⟩]
            simp only [Sem.run_bind, run_sizeOf hn, Result.andThen_ok, f4, hu']
          · cases h
        · cases h
      · cases hc
    · cases hc
  case range t x =>
    split at hc
    · cases hc; simp [pureA] at h
    · cases hc
  case next x b =>
    cases b with
    | false => simp at hc
    | true =>
      simp only [if_true, Option.map_eq_some_iff] at hc
      obtain ⟨n, hn, rfl⟩ := hc
      simp [pureA] at h
  case extract x i =>
    simp only [Option.map_eq_some_iff] at hc
    obtain ⟨r, hr, rfl⟩ := hc
    simp only [pureA] at h
    split at h
    · rename_i vs hv
      have := rnd_sound cx hr
      rw [hv] at this
      obtain ⟨l, hl, rl⟩ := this
      obtain ⟨y, hy, ry⟩ := rl.get h
      refine ⟨y, value_run ?_, ?_⟩
      · simp only [Instr.extract, hl, List.getElem?_toArray, hy, Sem.run_pure]
      · cases v with
        | tup _ => exact ry.elim
        | sc _ => exact ry
        | agg _ => exact ry
    · cases h
  case call c => exact call_pure_sim hX cx hc h
  all_goals cases hc

end
end Go.Jx
