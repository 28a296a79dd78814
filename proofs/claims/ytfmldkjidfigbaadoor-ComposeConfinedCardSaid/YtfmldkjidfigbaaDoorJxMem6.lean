/-
  Memory: texts and conversions, in the plain machine and in the model; all operations together: 'op_sim'.
-/
import Derived.Test.YtfmldkjidfigbaaDoorJxMem5
import Derived.Laws.BytesString
import Derived.Laws.Cover4
import Derived.Lib.UnsafeStr
namespace Go.Jx
open Go Go.RowKit
set_option linter.unusedSimpArgs false
set_option linter.unusedVariables false

theorem bytesOf_inv : ∀ {cs : List SV} {bs : List UInt8}, bytesOfCells cs = some bs → ∃ ns : List Int, cs = ns.map (SV.int .u8) ∧ bs = ns.map (fun n => UInt8.ofNat n.toNat) ∧ ∀ n ∈ ns, 0 ≤ n ∧ n < 256
  | [], bs, h => by simp [bytesOfCells] at h; exact ⟨[], rfl, by simp [h], by simp⟩
  | c :: cs, bs, h => by
    unfold bytesOfCells at h
    split at h
    · rename_i heq; cases heq
    · rename_i n r heq
      cases heq
      split at h
      · rename_i hn
        simp only [Option.map_eq_some_iff] at h
        obtain ⟨bs', hb, rfl⟩ := h
        obtain ⟨ns, rfl, rfl, h3⟩ := bytesOf_inv hb
        refine ⟨n :: ns, rfl, rfl, ?_⟩
        intro m hm
        rcases List.mem_cons.1 hm with rfl | hm
        · exact hn
        · exact h3 m hm
      · cases h
    · cases h

theorem runesOf_inv : ∀ {cs : List SV} {bs : List UInt8}, runesOfCells cs = some bs → ∃ ns : List Int, cs = ns.map (SV.int .i32) ∧ bs = ns.flatMap (fun n => (Utf8.encode n).data.toList)
  | [], bs, h => by simp [runesOfCells] at h; exact ⟨[], rfl, by simp [h]⟩
  | c :: cs, bs, h => by
    unfold runesOfCells at h
    split at h
    · rename_i heq; cases heq
    · rename_i n r heq
      cases heq
      simp only [Option.map_eq_some_iff] at h
      obtain ⟨bs', hb, rfl⟩ := h
      obtain ⟨ns, rfl, rfl⟩ := runesOf_inv hb
      exact ⟨n :: ns, rfl, rfl⟩
    · cases h

theorem LR_ints {ρ : Rho} {k : IntKind} : ∀ {ns : List Int} {l : List Value}, LR (SVR ρ) (ns.map (SV.int k)) l → l = ns.map (Value.int k)
  | [], [], _ => rfl
  | n :: ns, v :: l, h => by
    have h1 : v = .int k n := h.1
    rw [h1, LR_ints h.2]; rfl
  | [], _ :: _, h => h.elim
  | _ :: _, [], h => h.elim

theorem fold_push : ∀ (ns : List Int) (s : ByteArray), ns.foldl (fun r n => r.push (UInt8.ofNat n.toNat)) s = ⟨(s.data.toList ++ ns.map fun n => UInt8.ofNat n.toNat).toArray⟩
  | [], s => by simp
  | n :: ns, s => by
    simp only [List.foldl_cons, fold_push ns]
    congr 1
    apply Array.ext'
    simp [ByteArray.push]

theorem fold_runes : ∀ (ns : List Int) (s : ByteArray), ns.foldl (fun r n => r ++ Utf8.encode n) s = ⟨(s.data.toList ++ ns.flatMap fun n => (Utf8.encode n).data.toList).toArray⟩
  | [], s => by simp
  | n :: ns, s => by
    simp only [List.foldl_cons, fold_runes ns]
    congr 1
    apply Array.ext'
    simp [ByteArray.data_append]

section
variable {P : Program} {w0 w : World} {ρ : Rho} {H : Heap} {e : List AV} {a : Act} {X : Exts}

theorem loadOf_first {n : Nat} {ad : Addr} {len cap : Nat} {l : List Value} (h : (Builtin.firstCells 1 n (.slice (some ad) len cap)).run P w = .ok l.toArray w) : (loadCells ad n).run P w = .ok l.toArray w := by
  simpa [Builtin.firstCells] using h

theorem cv_inv {s d : TypeId} {c : Cv} (h : cv? P s d = some c) :
    match c with
    | .int k => ∃ j, P.underlying s = some (.int j) ∧ P.underlying d = some (.int k)
    | .strId => P.underlying s = some .string ∧ P.underlying d = some .string
    | .intStr => ∃ j, P.underlying s = some (.int j) ∧ P.underlying d = some .string
    | .bytesStr => ∃ el, P.underlying s = some (.slice el) ∧ P.underlying d = some .string ∧ P.underlying el = some (.int .u8)
    | .runesStr => ∃ el, P.underlying s = some (.slice el) ∧ P.underlying d = some .string ∧ P.underlying el = some (.int .i32)
    | .ptrUnsafe => ∃ el n, P.underlying s = some (.pointer el) ∧ P.underlying d = some .unsafePointer ∧ size? P el = some n ∧ n ≠ 0
    | .unsafePtr u n => P.underlying s = some .unsafePointer ∧ P.underlying d = some (.pointer u) ∧ size? P u = some n ∧ n ≠ 0 := by
  unfold cv? at h
  split at h
  · rename_i j k h1 h2; cases h; exact ⟨j, h1, h2⟩
  · rename_i h1 h2; cases h; exact ⟨h1, h2⟩
  · rename_i j h1 h2; cases h; exact ⟨j, h1, h2⟩
  · rename_i el h1 h2
    split at h
    · rename_i n hn
      split at h
      · cases h
      · rename_i h0; cases h; exact ⟨el, n, h1, h2, hn, h0⟩
    · cases h
  · rename_i el h1 h2
    split at h
    · rename_i n hn
      split at h
      · cases h
      · rename_i h0; cases h; exact ⟨h1, h2, hn, h0⟩
    · cases h
  · rename_i el h1 h2
    split at h
    · rename_i hu; cases h; exact ⟨el, h1, h2, hu⟩
    · rename_i hu; cases h; exact ⟨el, h1, h2, hu⟩
    · cases h
  · cases h

theorem conv_sound (hr : Rel P w0 ρ H w) {s d : TypeId} {c : Cv} {x v : AV} {u : Value} {H' : Heap} (hc : cv? P s d = some c) (hx : AVR ρ x u) (h : convA c x H = some (v, H')) : Gives P w0 ρ H w (convert s d u) v H' := by
  have inv := cv_inv hc
  unfold convA at h
  split at h
  · rename_i k k' n
    obtain ⟨j, h1, h2⟩ := inv
    cases h
    have hx : u = .int k' n := hx
    subst hx
    exact ⟨ρ, w, .int k (k.wrap n), by unfold convert; rw [bind_ok (run_underlying h1), bind_ok (run_underlying h2)]; rfl, rfl, hr, Ext.refl _ _⟩
  · rename_i b
    obtain ⟨h1, h2⟩ := inv
    cases h
    have hx : u = .string ⟨b.toArray⟩ := hx
    subst hx
    exact ⟨ρ, w, .string ⟨b.toArray⟩, by unfold convert; rw [bind_ok (run_underlying h1), bind_ok (run_underlying h2)]; rfl, rfl, hr, Ext.refl _ _⟩
  · rename_i k n
    obtain ⟨j, h1, h2⟩ := inv
    cases h
    have hx : u = .int k n := hx
    subst hx
    exact ⟨ρ, w, .string (Utf8.encode n), by unfold convert; rw [bind_ok (run_underlying h1), bind_ok (run_underlying h2)]; rfl, rfl, hr, Ext.refl _ _⟩
  · cases h
  · cases h
  · rename_i hnostr
    obtain ⟨el, h1, h2, h3⟩ := inv
    split at h
    · cases h
    · rename_i n hn
      split at h
      · cases h
      · rename_i cs hcs
        simp only [Option.map_eq_some_iff, Prod.mk.injEq] at h
        obtain ⟨bs, hbs, rfl, rfl⟩ := h
        obtain ⟨ns, e1, e2, e3⟩ := bytesOf_inv hbs
        obtain ⟨l, f1, f2⟩ := run_firstCells hr hx hcs
        rw [e1] at f2
        have hl := LR_ints f2
        subst hl
        have hstr : ∀ (ad : Addr) (cap : Nat), u = .slice (some ad) n cap → (convert s d u).run P w = .ok (.string ⟨bs.toArray⟩) w := by
          intro ad cap hu
          subst hu
          unfold convert
          rw [bind_ok (run_underlying h1), bind_ok (run_underlying h2)]
          try dsimp only
          rw [bind_ok (run_underlying h3)]
          try dsimp only
          rw [run_bytesToString w ad n cap ns (loadOf_first f1), fold_push, e2]
          rfl
        unfold lenA at hn
        split at hn
        · cases hn
          have hx : u = .slice none 0 0 := hx
          subst hx
          refine ⟨ρ, w, .string ByteArray.empty, ?_, ?_, hr, Ext.refl _ _⟩
          · unfold convert
            rw [bind_ok (run_underlying h1), bind_ok (run_underlying h2)]
            try dsimp only
            rw [bind_ok (run_underlying h3)]
            rfl
          · simp only [firstA, Option.some.injEq] at hcs
            subst hcs
            have : ns = [] := by simpa using e1.symm
            subst this; subst e2
            rfl
        · cases hn
          obtain ⟨ad, cp, hx, _⟩ := hx
          exact ⟨ρ, w, _, hstr ad cp hx, rfl, hr, Ext.refl _ _⟩
        · cases hn
          obtain ⟨tg, ht, hx⟩ := hx
          exact ⟨ρ, w, _, hstr _ _ hx, rfl, hr, Ext.refl _ _⟩
        · exact absurd rfl (hnostr _)
        · cases hn
  · rename_i hnostr
    obtain ⟨el, h1, h2, h3⟩ := inv
    split at h
    · cases h
    · rename_i n hn
      split at h
      · cases h
      · rename_i cs hcs
        simp only [Option.map_eq_some_iff, Prod.mk.injEq] at h
        obtain ⟨bs, hbs, rfl, rfl⟩ := h
        obtain ⟨ns, e1, e2⟩ := runesOf_inv hbs
        obtain ⟨l, f1, f2⟩ := run_firstCells hr hx hcs
        rw [e1] at f2
        have hl := LR_ints f2
        subst hl
        have hstr : ∀ (ad : Addr) (cap : Nat), u = .slice (some ad) n cap → (convert s d u).run P w = .ok (.string ⟨bs.toArray⟩) w := by
          intro ad cap hu
          subst hu
          unfold convert
          rw [bind_ok (run_underlying h1), bind_ok (run_underlying h2)]
          try dsimp only
          rw [bind_ok (run_underlying h3)]
          try dsimp only
          rw [run_runesToString w ad n cap ns (loadOf_first f1), runesBytes, fold_runes, e2]
          rfl
        unfold lenA at hn
        split at hn
        · cases hn
          have hx : u = .slice none 0 0 := hx
          subst hx
          refine ⟨ρ, w, .string ByteArray.empty, ?_, ?_, hr, Ext.refl _ _⟩
          · unfold convert
            rw [bind_ok (run_underlying h1), bind_ok (run_underlying h2)]
            try dsimp only
            rw [bind_ok (run_underlying h3)]
            rfl
          · simp only [firstA, Option.some.injEq] at hcs
            subst hcs
            have : ns = [] := by simpa using e1.symm
            subst this; subst e2
            rfl
        · cases hn
          obtain ⟨ad, cp, hx, _⟩ := hx
          exact ⟨ρ, w, _, hstr ad cp hx, rfl, hr, Ext.refl _ _⟩
        · cases hn
          obtain ⟨tg, ht, hx⟩ := hx
          exact ⟨ρ, w, _, hstr _ _ hx, rfl, hr, Ext.refl _ _⟩
        · exact absurd rfl (hnostr _)
        · cases hn
  · obtain ⟨el, n, h1, h2, h3, h4⟩ := inv
    cases h
    have hx : u = .pointer none := hx
    subst hx
    refine ⟨ρ, w, .pointer none, ?_, rfl, hr, Ext.refl _ _⟩
    unfold convert
    rw [bind_ok (run_underlying h1), bind_ok (run_underlying h2)]
    try dsimp only
    unfold Conv.unsafePointer
    rw [bind_ok (run_underlying h1), bind_ok (run_underlying h2)]
    rfl
  · rename_i id off
    obtain ⟨el, n, h1, h2, h3, h4⟩ := inv
    obtain ⟨tg, ht, hx⟩ := hx
    subst hx
    split at h
    · rename_i ty k cs hg
      split at h
      · rename_i hlt
        cases h
        obtain ⟨c, ty', fz, o1, o2, _⟩ := hr.objs _ _ _ ht hg
        obtain ⟨y, hy, _⟩ := o2 off cs[off] (by simp [hlt])
        have hin : tg.base + off < c.size := (Array.getElem?_eq_some_iff.1 hy).1
        refine ⟨ρ, w, .pointer (some (tg.addr off)), ?_, ⟨tg, ht, rfl⟩, hr, Ext.refl _ _⟩
        have hsh : w.shape? tg.block = some (ty', c.size) := by simp [World.shape?, o1]
        have hview : (viewAt tg.block).run P w = .ok none w := by
          unfold viewAt
          simp only [Sem.run_bind, run_shape, Result.andThen_ok, hsh, Option.isSome_some, if_true, Sem.run_pure]
        have hseen : (Conv.seenAt (tg.addr off)).run P w = .ok (tg.addr off) w := by
          unfold Conv.seenAt
          refine (bind_ok (x := viewAt (tg.addr off).block) hview).trans ?_
          rfl
        have hcells : (cellsIn tg.block).run P w = .ok (some c.size) w := by
          unfold cellsIn
          simp only [Sem.run_bind, run_shape, Result.andThen_ok, hsh, Sem.run_pure]
        unfold convert
        rw [bind_ok (run_underlying h1), bind_ok (run_underlying h2)]
        try dsimp only
        unfold Conv.unsafePointer
        rw [bind_ok (run_underlying h1), bind_ok (run_underlying h2)]
        try dsimp only
        rw [bind_ok hseen]
        rw [bind_ok (show (cellsIn (tg.addr off).block).run P w = _ from hcells)]
        try dsimp only
        rw [bind_ok (run_sizeOf h3)]
        simp only [Tgt.addr, h4, decide_false, Bool.false_or, ge_iff_le, Option.isNone_none, Bool.and_true, decide_eq_true_eq, show ¬ (c.size ≤ tg.base + off) by omega, false_or, if_false, Bool.false_eq_true, or_false, Sem.run_pure]
      · cases h
    · cases h
  · obtain ⟨h1, h2, h3, h4⟩ := inv
    cases h
    have hx : u = .pointer none := hx
    subst hx
    refine ⟨ρ, w, .pointer none, ?_, rfl, hr, Ext.refl _ _⟩
    unfold convert
    rw [bind_ok (run_underlying h1), bind_ok (run_underlying h2)]
    try dsimp only
    unfold Conv.unsafePointer
    rw [bind_ok (run_underlying h1), bind_ok (run_underlying h2)]
    rfl
  · rename_i el n id off
    obtain ⟨h1, h2, h3, h4⟩ := inv
    obtain ⟨tg, ht, hx⟩ := hx
    subst hx
    split at h
    · rename_i ty cs hg
      split at h
      · rename_i hcond
        obtain ⟨htu, hoff, hn0, hncs⟩ := hcond
        cases h
        subst htu; subst hoff
        obtain ⟨c, ty', fz, o1, o2, o3, o4⟩ := hr.objs _ _ _ ht hg
        obtain ⟨b1, b2, b3, b4, b5⟩ := o3 (by simp)
        have hex := o4 rfl
        rw [hex, Nat.zero_mul, Nat.add_zero] at b5
        refine ⟨ρ, w, .pointer (some (tg.addr 0)), ?_, ⟨tg, ht, rfl⟩, hr, Ext.refl _ _⟩
        have hsh : w.shape? tg.block = some (ty', c.size) := by simp [World.shape?, o1]
        have hview : (viewAt tg.block).run P w = .ok none w := by
          unfold viewAt
          simp only [Sem.run_bind, run_shape, Result.andThen_ok, hsh, Option.isSome_some, if_true, Sem.run_pure]
        have hseen : (Conv.seenAt (tg.addr 0)).run P w = .ok (tg.addr 0) w := by
          unfold Conv.seenAt
          refine (bind_ok (x := viewAt (tg.addr 0).block) hview).trans ?_
          rfl
        have hvar : (variablesAt (tg.addr 0) ty 1).run P w = .ok true w := by
          unfold variablesAt
          simp only [Sem.run_bind, run_program, Result.andThen_ok, run_shape, Tgt.addr, hsh, Sem.run_pure, b1, b2]
          congr 1
          have hd : P.depth = (2 * (P.types.size + Made.depth) + 1) + 1 := rfl
          rw [hd]
          simp only [liesAt, Bool.or_eq_true]
          left
          rw [hd]
          have hco := cellsOf_of h3
          have hcnt : 1 ≤ c.size / n := (Nat.le_div_iff_mul_le (by omega)).2 (by omega)
          simp only [rowAt, hco, h4, if_false, Nat.zero_div, Nat.zero_mod, beq_self_eq_true, Bool.true_and, Nat.zero_add, Nat.add_zero, Bool.or_eq_true, Bool.and_eq_true, decide_eq_true_eq]
          left
          refine ⟨hcnt, ?_⟩
          simp only [sameLayout, beq_self_eq_true, Bool.true_or]
        unfold convert
        rw [bind_ok (run_underlying h1), bind_ok (run_underlying h2)]
        try dsimp only
        unfold Conv.unsafePointer
        rw [bind_ok (run_underlying h1), bind_ok (run_underlying h2)]
        try dsimp only
        rw [bind_ok hseen, bind_ok (run_sizeOf h3)]
        try dsimp only
        rw [bind_ok hvar]
        simp
      · cases h
    · cases h
  · cases h

theorem ustring_sound (hr : Rel P w0 ρ H w) {ats : Array TypeId} {ty pt el : TypeId} {x n v : AV} {ux un : Value} {H' : Heap} (h0 : ats[0]? = some pt) (hpt : P.underlying pt = some (.pointer el)) (hs : size? P el = some 1)
    (hx : AVR ρ x ux) (hn : AVR ρ n un) (h : ustringA el x n H = some (v, H')) : Gives P w0 ρ H w (Builtin.unsafeString_ ats ty #[ux, un]) v H' := by
  unfold ustringA at h
  split at h
  · rename_i k n
    have hn : un = .int k n := hn
    subst hn
    have head : ∀ (p : Option Addr) (r : Result Value), ux = .pointer p → ¬ (n < 0 ∨ n > IntKind.i64.max) →
        (match p with
          | none => if n = 0 then pure (.string .empty) else runtimePanic (.error "unsafe.String: ptr is nil and len is not zero")
          | some a =>
            if n = 0 then pure (.string .empty)
            else (do
              if ← variablesAt a (← elemOf pt) n.toNat then do
                let s ← loadBytes a .empty n.toNat
                freeze a n.toNat
                pure (.string s)
              else unsupported (.unsafePointer "String: not so many bytes at ptr")) : Sem Value).run P w = r → (Builtin.unsafeString_ ats ty #[ux, .int k n]).run P w = r := by
      intro p r e hb hh
      subst e
      unfold Builtin.unsafeString_
      have a1 : (asInt (.int k n)).run P w = .ok n w := rfl
      rw [h0]
      refine (bind_ok (x := asInt (.int k n)) a1).trans ?_
      try dsimp only
      rw [if_neg (by omega), if_neg (by omega)]
      exact hh
    split at h
    · cases h
    · rename_i hb
      split at h
      · rename_i hz
        have he : ∀ p, ux = .pointer p → (Builtin.unsafeString_ ats ty #[ux, .int k n]).run P w = .ok (.string .empty) w := by
          intro p e
          refine head p _ e hb ?_
          cases p <;> simp [hz]
        split at h
        · cases h
          have hx : ux = .pointer none := hx
          exact ⟨ρ, w, _, he none hx, rfl, hr, Ext.refl _ _⟩
        · cases h
          obtain ⟨p, hx⟩ := hx
          exact ⟨ρ, w, _, he p hx, rfl, hr, Ext.refl _ _⟩
        · cases h
          obtain ⟨tg, ht, hx⟩ := hx
          exact ⟨ρ, w, _, he _ hx, rfl, hr, Ext.refl _ _⟩
        · cases h
      · rename_i hz
        split at h
        · rename_i id off
          obtain ⟨tg, ht, hx⟩ := hx
          split at h
          · rename_i t kd cs hg
            split at h
            · rename_i hcond
              obtain ⟨htu, hkd, hoff⟩ := hcond
              subst htu; subst hoff
              split at h
              · rename_i seg hseg
                simp only [Option.map_eq_some_iff, Prod.mk.injEq] at h
                obtain ⟨bs, hbs, rfl, rfl⟩ := h
                have ho := hr.objs _ _ _ ht hg
                obtain ⟨l, q1, q2, q3⟩ := read_cells ho hseg
                obtain ⟨ns, e1, e2, e3⟩ := bytesOf_inv hbs
                rw [e1] at q1
                have hl := LR_ints q1
                subst hl
                obtain ⟨c, ty', fz, o1, o2, o3, o4⟩ := ho
                obtain ⟨b1, b2, b3, b4, b5⟩ := o3 hkd
                subst b2
                have hlen : bs.length = n.toNat := by rw [e2]; simp at q2; simp [q2]
                have hload : (loadBytes (tg.addr 0) .empty n.toNat).run P w = .ok ⟨bs.toArray⟩ w := by
                  have := Lib.run_loadBytes (P := P) (w := w) bs (tg.addr 0) .empty (fun j x hj => by
                    rw [e2, List.getElem?_map, Option.map_eq_some_iff] at hj
                    obtain ⟨m, hm, hmx⟩ := hj
                    have hmem := e3 m (List.mem_of_getElem? hm)
                    have := q3 j (.int .u8 m) (by rw [List.getElem?_map, hm]; rfl)
                    rw [this, ← hmx]
                    congr 2
                    rw [UInt8.toNat_ofNat']
                    omega)
                  rw [hlen] at this
                  rw [this]
                  congr 2
                  simp
                have hsh : w.shape? tg.block = some (ty', c.size) := by simp [World.shape?, o1]
                have hfit : n.toNat ≤ cs.length := by
                  unfold readN at hseg
                  split at hseg
                  · omega
                  · cases hseg
                have hvar : (variablesAt (tg.addr 0) ty' n.toNat).run P w = .ok true w := by
                  unfold variablesAt
                  simp only [Sem.run_bind, run_program, Result.andThen_ok, run_shape, Tgt.addr, hsh, Sem.run_pure, b1]
                  congr 1
                  refine Lib.liesAt_bytes (cellsOf_of hs) _ _ ?_
                  rw [cellsOf_of hs, Nat.div_one, b5]; omega
                have hel : (elemOf pt).run P w = .ok ty' w := by
                  unfold elemOf
                  rw [bind_ok (run_underlying hpt)]
                  rfl
                have hlt2 : tg.block < w.heap.size := (Array.getElem?_eq_some_iff.1 o1).1
                have hn0 : ¬ n.toNat = 0 := by omega
                obtain ⟨t1, t2⟩ := hr.turn (w' := w.freeze (tg.addr 0) n.toNat) (o' := .cells ty' .ro cs) ht hg (by simpa [AO.owned] using hkd)
                  (fun j hj => by simp only [World.freeze, hn0, if_false, Tgt.addr, Array.getElem?_modify]; rw [if_neg (Ne.symm hj)])
                  (by simp [World.freeze, hn0]) (by simp [World.freeze, hn0]) (by simp [World.freeze, hn0]) (by simp [World.freeze, hn0])
                  (by
                    obtain ⟨lo, hi⟩ := fz
                    exact ⟨c, ty', if lo == hi then ((tg.addr 0).off, (tg.addr 0).off + n.toNat) else (Min.min lo (tg.addr 0).off, Max.max hi ((tg.addr 0).off + n.toNat)),
                      by simp only [World.freeze, hn0, if_false, Tgt.addr, Array.getElem?_modify, if_true, o1, Option.map_some], o2, fun h => absurd rfl h, fun h => by cases h⟩) b3
                refine ⟨ρ, _, _, head (some (tg.addr 0)) _ hx hb ?_, rfl, t1, t2⟩
                try dsimp only
                rw [if_neg hz, bind_ok hel, bind_ok hvar, if_pos rfl, bind_ok hload, bind_ok (run_freeze _ _ _ _)]
                rfl
              · cases h
            · cases h
          · cases h
        · cases h
  · cases h

end
end Go.Jx
