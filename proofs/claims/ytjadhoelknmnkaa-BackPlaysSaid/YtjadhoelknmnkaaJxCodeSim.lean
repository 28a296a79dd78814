/-
  What the plain machine answers, the model answers: code and calls.
-/
import Derived.Test.YtjadhoelknmnkaaJxDraw4
namespace Go.Jx
open Go Go.RowKit
set_option linter.unusedSimpArgs false
set_option linter.unusedVariables false

section
variable {P : Program} {w0 w : World} {ρ : Rho} {H : Heap} {e : List AV} {a : Act} {X : Exts} {D : Nat → Option MFunc}

theorem Heap.get_shut {h : Heap} (hw : h.l.length = h.n) (n0 id : Nat) (hn : n0 ≤ h.n) : (h.shut n0).get id = if n0 ≤ id then (h.get id).map shutO else h.get id := by
  unfold Heap.shut Heap.get
  by_cases hid : id < h.n
  · simp only [hid, if_true]
    rw [List.getElem?_append, List.length_map, List.length_take, hw]
    by_cases h0 : n0 ≤ id
    · rw [if_pos (by omega), if_pos h0, List.getElem?_map, List.getElem?_take, if_pos (by omega)]
    · rw [if_neg (by omega), if_neg h0, List.getElem?_drop]
      congr 1; omega
  · simp [hid]
theorem Heap.shut_n (h : Heap) (n0 : Nat) : (h.shut n0).n = h.n := rfl
theorem Heap.shut_wf {h : Heap} (hw : h.l.length = h.n) (n0 : Nat) : (h.shut n0).l.length = (h.shut n0).n := by
  unfold Heap.shut; simp; omega
theorem shutO_cases {o o' : AO} (h : shutO o = o') : (o = .dfr ∧ o' = .dead) ∨ (o ≠ .dfr ∧ o' = o) := by
  cases o <;> simp [shutO] at h <;> subst h <;> simp

/-- All marks from an id on are taken; their blocks may be turned. -/
theorem Rel.shut (r : Rel P X w0 ρ H w) {n0 : Nat} (hn : n0 ≤ H.n) {w' : World} (hk : ∀ k, (∀ id t, n0 ≤ id → ρ id = some t → H.get id = some .dfr → t.block ≠ k) → w'.heap[k]? = w.heap[k]?)
    (hsz : w'.heap.size = w.heap.size) (ho : w'.os = w.os) (ht : w'.tape = w.tape) (hu : w'.output = w.output) : Rel P X w0 ρ (H.shut n0) w' := by
  have back : ∀ id o, (H.shut n0).get id = some o → ∃ o1, H.get id = some o1 ∧ ((o1 = .dfr ∧ n0 ≤ id ∧ o = .dead) ∨ ((o1 = .dfr → ¬ n0 ≤ id) ∧ o = o1)) := by
    intro id o h
    rw [Heap.get_shut r.wf n0 id hn] at h
    by_cases h0 : n0 ≤ id
    · rw [if_pos h0] at h
      cases hg : H.get id with
      | none => rw [hg] at h; cases h
      | some o1 =>
        rw [hg, Option.map_some, Option.some.injEq] at h
        refine ⟨o1, rfl, ?_⟩
        rcases shutO_cases h with ⟨rfl, rfl⟩ | ⟨h1, rfl⟩
        · exact .inl ⟨rfl, h0, rfl⟩
        · exact .inr ⟨fun hh => absurd hh h1, rfl⟩
    · rw [if_neg h0] at h
      exact ⟨o, h, .inr ⟨fun _ => h0, rfl⟩⟩
  refine ⟨?_, Heap.shut_wf r.wf n0, fun id t h => by rw [Heap.shut_n]; exact r.dom _ _ h, ?_, ?_⟩
  · refine r.below.trans ⟨ho, ht, hu, by rw [hsz]; exact Nat.le_refl _, fun k hk0 => hk k fun id t _ h1 h2 => ?_⟩
    have := (r.objs _ _ _ h1 h2).2.1
    omega
  · intro id t o h1 h2
    obtain ⟨o1, g1, ⟨rfl, _, rfl⟩ | ⟨g2, rfl⟩⟩ := back id o h2
    · trivial
    · have h3 := r.objs _ _ _ h1 g1
      by_cases hl : o.live
      · refine OR.block (hk _ fun id2 t2 q1 q2 q3 => ?_) h3
        refine r.sep id2 id t2 t _ _ q2 h1 ?_ q3 g1 trivial hl
        rintro rfl
        rw [g1] at q3
        exact g2 (Option.some.inj q3) q1
      · cases o <;> first | trivial | exact absurd trivial hl
  · intro id id' t t' o o' h1 h2 hne g1 g2 ow lv
    obtain ⟨o1, a1, ⟨_, _, rfl⟩ | ⟨_, rfl⟩⟩ := back id o g1
    · exact ow.elim
    · obtain ⟨o2, a2, ⟨_, _, rfl⟩ | ⟨_, rfl⟩⟩ := back id' o' g2
      · exact lv.elim
      · exact r.sep _ _ _ _ _ _ h1 h2 hne a1 a2 ow lv

theorem leaves_marks {F : Fence} {n : Nat} {fn : Func} {tmps : Array Value} {R : Ending → World → Prop} : ∀ (Ds : List Nat) (w : World), Ds.Nodup → (∀ b ∈ Ds, w.heap[b]? = some (.deferred (some []))) →
    (∀ w', (∀ k, k ∉ Ds → w'.heap[k]? = w.heap[k]?) → w'.heap.size = w.heap.size → w'.os = w.os → w'.tape = w.tape → w'.output = w.output → ∃ v, (results fn tmps).run P w' = .ok v w' ∧ R (.returned v) w') →
    LeavesInM F n P fn tmps R (Ds.map fun b => ({ target := .collected b, args := #[] } : Deferred)) .returning w
  | [], w, _, _, h => h w (fun _ _ => rfl) rfl rfl rfl rfl
  | b :: Ds, w, hnd, hb, h => by
    have hb0 := hb b (by simp)
    have hlt : b < w.heap.size := (Array.getElem?_eq_some_iff.1 hb0).1
    refine ⟨by simp, .inl ⟨b, _, rfl, run_takeDeferred hb0, ?_⟩⟩
    refine leaves_marks Ds _ (List.nodup_cons.1 hnd).2 (fun c hc => ?_) (fun w' h1 h2 h3 h4 h5 => h w' (fun k hk => ?_) (by rw [h2, World.putObj_size]) h3 h4 h5)
    · rw [World.putObj_heap_other]
      · exact hb c (by simp [hc])
      · rintro rfl; exact (List.nodup_cons.1 hnd).1 hc
    · rw [h1 k (fun hh => hk (by simp [hh])), World.putObj_heap_other (fun hh => hk (by simp [hh]))]

/-- The blocks of marks. -/
theorem marks_blocks (r : Rel P X w0 ρ H w) : ∀ {ids : List Nat} {ms : List Deferred}, ids.Nodup → LR (fun (id : Nat) (d : Deferred) => ∃ t, ρ id = some t ∧ H.get id = some .dfr ∧ d = { target := .collected t.block, args := #[] }) ids ms →
    ∃ Ds : List Nat, ms = Ds.map (fun b => ({ target := .collected b, args := #[] } : Deferred)) ∧ Ds.Nodup ∧ (∀ b ∈ Ds, w.heap[b]? = some (.deferred (some []))) ∧ (∀ b ∈ Ds, ∃ id ∈ ids, ∃ t, ρ id = some t ∧ H.get id = some .dfr ∧ t.block = b)
  | [], [], _, _ => ⟨[], rfl, List.nodup_nil, fun _ h => (by cases h), fun _ h => (by cases h)⟩
  | [], _ :: _, _, h => h.elim
  | _ :: _, [], _, h => h.elim
  | id :: ids, m :: ms, hn, h => by
    obtain ⟨⟨t, h1, h2, rfl⟩, h3⟩ := h
    obtain ⟨Ds, rfl, d1, d2, d3⟩ := marks_blocks r (List.nodup_cons.1 hn).2 h3
    refine ⟨t.block :: Ds, rfl, List.nodup_cons.2 ⟨fun hin => ?_, d1⟩, fun b hb => ?_, fun b hb => ?_⟩
    · obtain ⟨id2, hid2, t2, q1, q2, q3⟩ := d3 _ hin
      have hne : id ≠ id2 := by rintro rfl; exact (List.nodup_cons.1 hn).1 hid2
      exact r.sep id id2 t t2 _ _ h1 q1 hne h2 q2 trivial trivial q3.symm
    · rcases List.mem_cons.1 hb with rfl | hb
      · exact (r.objs _ _ _ h1 h2).1
      · exact d2 b hb
    · rcases List.mem_cons.1 hb with rfl | hb
      · exact ⟨id, by simp, t, h1, h2, rfl⟩
      · obtain ⟨id2, a, b⟩ := d3 b hb
        exact ⟨id2, by simp [a], b⟩

theorem er_setAllL : ∀ (ps : List Nat) (args e : List AV) (vs : List Value) (tmps : Array Value), LR (AVR ρ) args vs → ER ρ e tmps →
    ER ρ (setAll e ps args) ((ps.zip vs).foldl (fun t (p, v) => t.setIfInBounds p v) tmps)
  | [], args, e, vs, tmps, _, h => by cases args <;> simpa [setAll] using h
  | p :: ps, [], e, [], tmps, _, h => by simpa [setAll] using h
  | p :: ps, [], e, _ :: _, tmps, hl, _ => hl.elim
  | p :: ps, _ :: _, e, [], tmps, hl, _ => hl.elim
  | p :: ps, v :: args, e, u :: vs, tmps, hl, h =>
    er_setAllL ps args (e.set p v) vs (tmps.setIfInBounds p u) hl.2 (by
      show LR _ _ _
      rw [Array.toList_setIfInBounds]; exact LR.set p h hl.1)
theorem er_setAll (ps : List Nat) (args e : List AV) (vs : List Value) (tmps : Array Value) (hl : LR (AVR ρ) args vs) (h : ER ρ e tmps) :
    ER ρ (setAll e ps args) ((ps.toArray.zip vs.toArray).foldl (fun t (p, v) => t.setIfInBounds p v) tmps) := by
  have := er_setAllL ps args e vs tmps hl h
  rw [List.zip_toArray, List.foldl_toArray]
  exact this

theorem ops_normal : ∀ (n : Nat) (l : List MI) (e : List AV) (H : Heap) (x : Ex) (e' : List AV) (H' : Heap), run D n (.ops l e H) = some (x, e', H') → x = .normal := by
  intro n
  induction n with
  | zero => intro l e H x e' H' h; simp [run] at h
  | succ n ih =>
    intro l e H x e' H' h
    cases l with
    | nil => simp only [run, Option.some.injEq, Prod.mk.injEq] at h; exact h.1.symm
    | cons i r =>
      simp only [run] at h
      split at h
      · exact ih _ _ _ _ _ _ h
      · split at h
        · split at h
          · split at h
            · exact ih _ _ _ _ _ _ h
            · cases h
          · split at h
            · split at h
              · exact ih _ _ _ _ _ _ h
              · cases h
            · cases h
        · split at h
          · exact ih _ _ _ _ _ _ h
          · cases h


theorem loop_turn (r : Rel P X w0 ρ H w) {id : Nat} {t : Tgt} {e2 : List AV} {ps2 : List Nat} {a2 b2 : MCode} {st st' : LSt} {d2 : Nat} (hid : ρ id = some t) (hg : H.get id = some (.loop e2 ps2 a2 b2 st d2)) :
    ∃ rec : Loop, w.heap[t.block]? = some (.loop rec) ∧ StR st rec.state rec.pending ∧ ∀ ls pe, StR st' ls pe → ∀ rec', rec' = { rec with state := ls, pending := pe } →
      Rel P X w0 ρ (H.set id (.loop e2 ps2 a2 b2 st' d2)) (w.putObj t.block (.loop rec')) ∧ Ext ρ H ρ (H.set id (.loop e2 ps2 a2 b2 st' d2)) := by
  obtain ⟨fn, tmps, A, B, td, ls0, pe0, h1, h2, h3, h4, h5, h6, h7, h8, h9, h10⟩ := r.objs _ _ _ hid hg
  refine ⟨_, h1, h8, fun ls pe hs rec' hr => ?_⟩
  subst hr
  have hlt : t.block < w.heap.size := (Array.getElem?_eq_some_iff.1 h1).1
  exact r.turn hid hg trivial (fun k hk => World.putObj_heap_other hk) World.putObj_size rfl rfl rfl
    ⟨fn, tmps, A, B, td, ls, pe, World.putObj_heap_same hlt, h2, h3, h4, h5, h6, h7, hs, h9, h10⟩ h9

theorem all_ok (hX : ExtOk P X) (hD : FunOk P w0 X D) : ∀ n, CodeOk P w0 X D n ∧ LoopOk P w0 X D n ∧ OpsOk P w0 X D n ∧ CallOk P w0 X D n ∧ YieldOk P w0 X D n := by
  intro n
  induction n using Nat.strongRecOn with
  | _ n ihAll =>
  cases n with
  | zero => exact ⟨fun _ _ _ _ _ _ _ _ h => by simp [run] at h, fun _ _ _ _ _ _ _ _ h => by simp [run] at h, fun _ _ _ _ _ _ _ _ _ h => by simp [run] at h, fun _ _ _ _ _ _ h => by simp [run] at h, fun _ _ _ _ _ _ h => by simp [run] at h⟩
  | succ n =>
    obtain ⟨ihC, ihL, ihO, ihF, ihY⟩ := ihAll n (Nat.lt_succ_self n)
    have hL : LoopOk P w0 X D (n + 1) := by
      intro r C e H x e' H' hp h ρ w a Q cx hQ
      simp only [run] at h
      split at h
      · rename_i e1 H1 h1
        rw [roundsIn_succ]
        refine ihC r C e H .normal e1 H1 hp h1 ρ w a _ cx fun ρ1 w1 a1 cx1 ext1 d1 => ?_
        exact ihL r C e1 H1 x e' H' hp h ρ1 w1 a1 Q cx1 fun ρ2 w2 a2 cx2 ext2 d2 => hQ ρ2 w2 a2 cx2 (ext1.trans ext2) ⟨d1.1.trans ext1.size ext2 d2.1, fun hh => (d2.2 hh).trans (d1.2 hh)⟩
      · rename_i hne
        rw [roundsIn_succ]
        refine ihC r C e H x e' H' hp h ρ w a _ cx ?_
        refine exOf_then (fun hx => ?_) (fun _ => hQ)
        subst hx
        exact absurd h (hne e' H')
    refine ⟨?_, hL, ?_, ?_, ?_⟩
    · intro r C e H x e' H' hp h ρ w a Q cx hQ
      cases C with
      | skip =>
        simp only [cCode, run, Option.some.injEq, Prod.mk.injEq] at h
        obtain ⟨rfl, rfl, rfl⟩ := h
        exact wpIn_skip (hQ _ _ _ cx (Ext.refl _ _) ⟨NewM.none rfl, fun _ => rfl⟩)
      | region id ops draw =>
        cases draw with
        | true =>
          obtain rfl : r = none := by
            cases r with
            | none => rfl
            | some l => have := hp rfl; simp [plainC] at this
          show Code.wpIn Fence.wide 0 P (.region id ops true) Q a w
          rw [wpIn_wide]
          replace hQ : ∀ ρ' w' a', Cx P X w0 ρ' H' w' e' a' → Ext ρ H ρ' H' → a'.defers = a.defers → Q (exOf x) a' w' := fun ρ' w' a' c x d => hQ ρ' w' a' c x ⟨NewM.none d, fun _ => d⟩
          simp only [cCode, if_true] at h
          split at h
          · rename_i hmix
            cases hcd : cDraw ops.toList (ops.toList.map (cOper P X ops.toList)) with
            | draw L =>
              rw [hcd] at h
              simp only [run] at h
              exact draw_region (N := n + 1) (Nat.le_succ n) hX hD (fun k hk => (ihAll k hk).2.2.2.1) hmix hcd h cx hQ
            | bad => rw [hcd] at h; simp [run] at h
            | seq A B =>
              rw [hcd] at h
              unfold cDraw at hcd
              dsimp only at hcd
              split at hcd
              · cases hcd
              · split at hcd
                · rename_i hok
                  simp only [Bool.and_eq_true] at hok
                  cases hcd
                  simp only [run] at h
                  split at h
                  · rename_i e1 H1 h1
                    cases n with
                    | zero => simp [run] at h1
                    | succ n =>
                    simp only [run] at h1 h
                    exact drawF_region (N := n + 1 + 1) (n2 := n) (by omega) hX hD (fun k hk => (ihAll k hk).2.2.2.1) hmix hok.1 hok.2 h1 h cx hQ
                  · rename_i hne
                    exfalso
                    cases n with
                    | zero => simp [run] at h
                    | succ n =>
                    simp only [run] at h
                    have := ops_normal _ _ _ _ _ _ _ h
                    subst this
                    exact hne e' H' (by simpa only [run] using h)
                · cases hcd
            | _ => unfold cDraw at hcd; dsimp only at hcd; split at hcd <;> first | cases hcd | (split at hcd <;> cases hcd)
          · simp [run] at h
        | false =>
          simp only [cCode, Bool.false_eq_true, if_false, run] at h
          have hl : ops.toList.map (cOper P X ops.toList) = (List.range ops.size).map fun i => cOper P X ops.toList (ops.getD i default) := by
            apply List.ext_getElem?
            intro i
            by_cases hi : i < ops.size
            · simp [hi, Array.getD_eq_getD_getElem?]
            · simp [hi]
          rw [hl] at h
          refine wpIn_region ?_
          have hx := ops_normal n _ _ _ _ _ _ h
          subst hx
          exact ihO r ops (List.range ops.size) (fun i hi => by simpa using hi) e H .normal e' H' h ρ w a Q cx fun ρ' w' a' c x d => hQ ρ' w' a' c x ⟨NewM.none d, fun _ => d⟩
      | seq A B =>
        have hpA : r.isSome = true → plainC A = true := fun hh => by have := hp hh; simp only [plainC, Bool.and_eq_true] at this; exact this.1
        have hpB : r.isSome = true → plainC B = true := fun hh => by have := hp hh; simp only [plainC, Bool.and_eq_true] at this; exact this.2
        have hnr : noRange (A.seq B) = true → noRange A = true ∧ noRange B = true := fun hh => by simpa only [noRange, Bool.and_eq_true] using hh
        simp only [cCode, run] at h
        split at h
        · rename_i e1 H1 h1
          refine wpIn_seq (ihC r A e H .normal e1 H1 hpA h1 ρ w a _ cx fun ρ1 w1 a1 cx1 ext1 d1 => ?_)
          exact ihC r B e1 H1 x e' H' hpB h ρ1 w1 a1 Q cx1 fun ρ2 w2 a2 cx2 ext2 d2 => hQ ρ2 w2 a2 cx2 (ext1.trans ext2) ⟨d1.1.trans ext1.size ext2 d2.1, fun hh => (d2.2 (hnr hh).2).trans (d1.2 (hnr hh).1)⟩
        · rename_i hne
          refine wpIn_seq (ihC r A e H x e' H' hpA h ρ w a _ cx (exOf_then (fun hx => ?_) fun _ ρ' w' a' c x d => hQ ρ' w' a' c x ⟨d.1, fun hh => d.2 (hnr hh).1⟩))
          subst hx
          exact absurd h (hne e' H')
      | cond c A B =>
        have hpA : r.isSome = true → plainC A = true := fun hh => by have := hp hh; simp only [plainC, Bool.and_eq_true] at this; exact this.1
        have hpB : r.isSome = true → plainC B = true := fun hh => by have := hp hh; simp only [plainC, Bool.and_eq_true] at this; exact this.2
        have hnr : noRange (.cond c A B) = true → noRange A = true ∧ noRange B = true := fun hh => by simpa only [noRange, Bool.and_eq_true] using hh
        simp only [cCode] at h
        split at h
        · rename_i rr hr
          simp only [run] at h
          have hv := rnd_sound cx hr
          split at h
          · rename_i hc
            rw [hc] at hv
            exact wpIn_cond_true hv (ihC r A e H x e' H' hpA h ρ w a Q cx fun ρ' w' a' c x d => hQ ρ' w' a' c x ⟨d.1, fun hh => d.2 (hnr hh).1⟩)
          · rename_i hc
            rw [hc] at hv
            exact wpIn_cond_false hv (ihC r B e H x e' H' hpB h ρ w a Q cx fun ρ' w' a' c x d => hQ ρ' w' a' c x ⟨d.1, fun hh => d.2 (hnr hh).2⟩)
          · cases h
        · simp [run] at h
      | block id A =>
        simp only [cCode, run] at h
        split at h
        · rename_i j e1 H1 h1
          refine wpIn_block (ihC r A e H (.exit j) e1 H1 hp h1 ρ w a _ cx fun ρ1 w1 a1 cx1 ext1 d1 => ?_)
          split at h
          · rename_i hj
            simp only [Option.some.injEq, Prod.mk.injEq] at h
            obtain ⟨rfl, rfl, rfl⟩ := h
            simp only [exOf, Exit.inBlock, hj, if_true]
            exact hQ _ _ _ cx1 ext1 d1
          · rename_i hj
            simp only [Option.some.injEq, Prod.mk.injEq] at h
            obtain ⟨rfl, rfl, rfl⟩ := h
            simp only [exOf, Exit.inBlock, hj, if_false]
            exact hQ _ _ _ cx1 ext1 d1
        · rename_i hne
          refine wpIn_block (ihC r A e H x e' H' hp h ρ w a _ cx fun ρ1 w1 a1 cx1 ext1 d1 => ?_)
          cases x with
          | normal => exact hQ _ _ _ cx1 ext1 d1
          | ret => exact hQ _ _ _ cx1 ext1 d1
          | exit j => exact absurd h (hne j e' H')
      | loop A =>
        exact wpIn_loop_rounds (n + 1) (hL r A e H x e' H' hp (by simpa only [cCode] using h) ρ w a Q cx hQ)
      | exit id =>
        simp only [cCode, run, Option.some.injEq, Prod.mk.injEq] at h
        obtain ⟨rfl, rfl, rfl⟩ := h
        exact wpIn_exit (hQ _ _ _ cx (Ext.refl _ _) ⟨NewM.none rfl, fun _ => rfl⟩)
      | ret =>
        simp only [cCode, run, Option.some.injEq, Prod.mk.injEq] at h
        obtain ⟨rfl, rfl, rfl⟩ := h
        exact wpIn_ret (hQ _ _ _ cx (Ext.refl _ _) ⟨NewM.none rfl, fun _ => rfl⟩)
      | rangeFunc f ps A B =>
        obtain rfl : r = none := by
          cases r with
          | none => rfl
          | some l => have := hp rfl; simp [plainC] at this
        simp only [cCode] at h
        split at h
        · rename_i rr hr
          split at h
          · rename_i hpl
            simp only [Bool.and_eq_true] at hpl
            simp only [run] at h
            split at h
            · rename_i g caps hx
              have hv := rnd_sound cx hr
              rw [hx] at hv
              obtain ⟨l, hl, rl⟩ := hv
              split at h
              · rename_i v0 v1 H2 hrun
                have h0 : X g = 0 := by
                  cases n with
                  | zero => simp [run] at hrun
                  | succ n =>
                    simp only [run] at hrun
                    split at hrun
                    · cases hrun
                    · rename_i md hmd; exact (hD g md hmd).1
                refine wpIn_rangeFunc fun fn _ => ?_
                obtain ⟨w1, hw1⟩ : ∃ w1, w1 = w.alloc (.deferred (some [])) := ⟨_, rfl⟩
                obtain ⟨rec, hrec⟩ : ∃ rec : Loop, rec = { state := .ready, pending := none, fn := fn, tmps := a.tmps, params := ps, assign := A, body := B, defers := w.heap.size } := ⟨_, rfl⟩
                obtain ⟨w2, hw2⟩ : ∃ w2, w2 = w1.alloc (.loop rec) := ⟨_, rfl⟩
                have hs1 : w1.heap.size = w.heap.size + 1 := by rw [hw1]; simp
                obtain ⟨r1, x1⟩ := cx.rel.push (w' := w1) (.deferred (some [])) (by rw [hw1]; rfl) (by rw [hw1]; rfl) (by rw [hw1]; rfl) (by rw [hw1]; rfl) 0 .dfr
                  (fun ρ' _ => ⟨by rw [hw1]; exact World.alloc_heap_new w _, cx.rel.below.size, rfl⟩)
                obtain ⟨r2, x2⟩ := r1.push (w' := w2) (.loop rec) (by rw [hw2]; rfl) (by rw [hw2]; rfl) (by rw [hw2]; rfl) (by rw [hw2]; rfl) 0 (.loop e ps.toList (cCode P X A) (cCode P X B) .ready H.n)
                  (fun ρ' hsub => ⟨fn, a.tmps, A, B, ⟨w.heap.size, 0, 0⟩, .ready, none, by rw [hw2, World.alloc_heap_new w1, hrec], ER.mono (fun id t h => hsub _ _ (x1.sub _ _ h)) cx.er, rfl, rfl, hpl.1, hpl.2, hsub _ _ (add_self _ _ _), ⟨rfl, rfl⟩, r1.below.size, rfl⟩)
                rw [hs1] at r2 x2
                have hHn : (H.push .dfr).n = H.n + 1 := rfl
                rw [hHn] at r2 x2
                have x02 := x1.trans x2
                have hmk : ((H.push .dfr).push (.loop e ps.toList (cCode P X A) (cCode P X B) .ready H.n)).get H.n = some .dfr := x2.mark _ (by rw [Heap.get_push cx.rel.wf, if_pos rfl])
                have hid : ((ρ.add H.n ⟨w.heap.size, 0, 0⟩).add (H.n + 1) ⟨w.heap.size + 1, 0, 0⟩) (H.n + 1) = some ⟨w.heap.size + 1, 0, 0⟩ := add_self _ _ _
                have hid0 : ((ρ.add H.n ⟨w.heap.size, 0, 0⟩).add (H.n + 1) ⟨w.heap.size + 1, 0, 0⟩) H.n = some ⟨w.heap.size, 0, 0⟩ := x2.sub _ _ (add_self _ _ _)
                refine ⟨w.heap.size + 1, [{ target := .collected w.heap.size, args := #[] }], w2, { target := .fn (.func g) l.toArray, args := #[.func (.yield (w.heap.size + 1)) #[] #[]] }, w2, g,
                  (Value.func (.yield (w.heap.size + 1)) #[] #[] :: l).toArray, w2, ?_, ?_, fun _ _ => trivial, ?_, fun hh => by simp [F0, Fence.wide] at hh, ?_⟩
                · rw [hw2, hw1, hrec]; exact run_enterLoop_outer _ _ _ _ _
                · simp only [resolve, hl]
                  simp [Deferred.ofValue, Act.eval]
                · have : (invoke (.fn (.func g) l.toArray) #[.func (.yield (w.heap.size + 1)) #[] #[]]).run P w2 = (callFunc g (Value.func (.yield (w.heap.size + 1)) #[] #[] :: l).toArray).run P w2 := by
                    simp only [invoke]
                    congr 2
                    apply Array.ext'; simp
                  rw [this]
                  exact (hX g).1 h0 _ _
                · refine callsIn_F0 none ((ihF g _ _ v0 v1 H2 hrun _ w2 (Value.func (.yield (w.heap.size + 1)) #[] #[] :: l) r2 (fun g hg => x02.sub _ _ (cx.glob g hg)) ⟨⟨_, hid, rfl⟩, ?_⟩).mono ?_)
                  · refine caps_of_ptrs (rl.mono fun c u ⟨t, q1, q2⟩ => ⟨t, x02.sub _ _ q1, q2⟩)
                  · rintro en w3 ⟨ρ3, u, rfl, au, r3, x3⟩
                    have fin : ∀ (y : Ex) (st : LSt) (e2 : List AV) (ps2 : List Nat) (a2 b2 : MCode) (d2 : Nat), H2.get (H.n + 1) = some (.loop e2 ps2 a2 b2 st d2) → (st = .ready ∧ y = .normal ∨ st = .done y) →
                        x = y → e' = e → H' = H2.set (H.n + 1) (.loop e2 ps2 a2 b2 .out d2) →
                        rangePost (F0 none) 0 P (w.heap.size + 1) Q { a with defers := [{ target := .collected w.heap.size, args := #[] }] ++ a.defers } (.returned u) w3 := by
                      rintro y st e2 ps2 a2 b2 d2 hget hst rfl rfl rfl
                      obtain ⟨rec3, g1, g2, g3⟩ := loop_turn (st' := .out) r3 (x3.sub _ _ hid) hget
                      have hnb : rec3.state ≠ .busy := by
                        rcases hst with ⟨rfl, rfl⟩ | rfl
                        · rw [g2.1]; simp
                        · rw [g2.1]; simp
                      obtain ⟨r4, x4⟩ := g3 .exhausted rec3.pending rfl _ rfl
                      obtain ⟨w4, hw4⟩ : ∃ w4, w4 = w3.putObj (w.heap.size + 1) (.loop { rec3 with state := .exhausted }) := ⟨_, rfl⟩
                      refine ⟨rec3.pending, w4, by rw [hw4]; exact run_endLoop g1 hnb, ?_⟩
                      have hx : Ext ρ H ρ3 (H2.set (H.n + 1) (.loop e2 ps2 a2 b2 .out d2)) := (x02.trans x3).trans x4
                      have hQ2 : Q (exOf x) { a with defers := [{ target := .collected w.heap.size, args := #[] }] ++ a.defers } w4 := by
                        rw [hw4]
                        refine hQ ρ3 _ _ ⟨r4, (hx.er cx.er), fun g hg => hx.sub _ _ (cx.glob g hg)⟩ hx ⟨⟨[_], [H.n], rfl, by simp, by simp, ⟨_, x3.sub _ _ hid0, x4.mark _ (x3.mark _ hmk), rfl⟩, trivial⟩, fun hh => by simp [noRange] at hh⟩
                      rcases hst with ⟨rfl, rfl⟩ | rfl
                      · rw [g2.2]; exact hQ2
                      · rw [g2.2]
                        cases x with
                        | normal => exact wpIn_skip hQ2
                        | exit id => exact wpIn_exit hQ2
                        | ret => exact wpIn_ret hQ2
                    split at h
                    · rename_i e2 ps2 a2 b2 d2 hget
                      simp only [Option.some.injEq, Prod.mk.injEq] at h
                      obtain ⟨h1, h2, h3⟩ := h
                      exact fin _ _ e2 ps2 a2 b2 d2 hget (.inl ⟨rfl, rfl⟩) h1.symm h2.symm h3.symm
                    · rename_i e2 ps2 a2 b2 y d2 hget
                      simp only [Option.some.injEq, Prod.mk.injEq] at h
                      obtain ⟨h1, h2, h3⟩ := h
                      exact fin _ _ e2 ps2 a2 b2 d2 hget (.inr rfl) h1.symm h2.symm h3.symm
                    · cases h
              · cases h
            · cases h
          · simp [run] at h
        · simp [run] at h
      | _ => simp [cCode, run] at h
    · intro rr ops l hl e H x e' H' h ρ w a Q cx hQ
      cases l with
      | nil =>
        simp only [List.map_nil, run, Option.some.injEq, Prod.mk.injEq] at h
        obtain ⟨rfl, rfl, rfl⟩ := h
        exact hQ _ _ _ cx (Ext.refl _ _) rfl
      | cons i r =>
        have hi : i < ops.size := hl i (by simp)
        have hget : ops[i]? = some (ops.getD i default) := by simp [hi, Array.getD_eq_getD_getElem?]
        have hr : ∀ j ∈ r, j < ops.size := fun j hj => hl j (by simp [hj])
        have hputd : ∀ (dst : Option Nat) (u : Value), (a.put dst u).defers = a.defers := by intro dst u; cases dst <;> rfl
        simp only [List.map_cons, run] at h
        simp only [wpOpsIn, hget]
        generalize ops.getD i default = o at h hget ⊢
        rcases cOper_cases P X ops.toList o with ⟨m, g, hm, hg, hco⟩ | hco
        · rw [hco] at h
          simp only at h
          rw [wanted_eq cx hg]
          split at h
          · rename_i hw
            simp only [hw, Bool.false_eq_true, if_false]
            exact ⟨fun _ _ => trivial, ihO rr ops r hr _ H x e' H' h ρ w _ Q (cx.put cx.rel (Ext.refl _ _) (AVR.undef ρ) o.dst) fun ρ2 w2 a2 cx2 ext2 d2 => hQ ρ2 w2 a2 cx2 ext2 (d2.trans (hputd _ _))⟩
          · rename_i hw
            simp only [hw, if_true]
            refine ⟨fun _ _ => trivial, ?_⟩
            rw [Oper.semAt_eq _ _ _ (not_defer hm)]
            split at h
            · rename_i hcall
              split at h
              · rename_i f args hcal
                split at h
                · rename_i x1 v H1 hrun
                  have h0 : X f = 0 := by
                    cases n with
                    | zero => simp [run] at hrun
                    | succ n =>
                      simp only [run] at hrun
                      split at hrun
                      · cases hrun
                      · rename_i md hmd; exact (hD f md hmd).1
                  obtain ⟨vs, hrun2, hvs⟩ := call_enter hX cx hm hcall hcal h0
                  rw [hrun2, Oper.uponIn_enter]
                  refine ⟨fun hh => by simp [F0, Fence.wide] at hh, callsIn_F0 rr ((ihF f args H x1 v H1 hrun ρ w vs cx.rel cx.glob hvs).mono ?_)⟩
                  rintro en w' ⟨ρ', u, rfl, au, hr', hx'⟩
                  exact ihO rr ops r hr _ H1 x e' H' h ρ' w' _ Q (cx.put hr' hx' au o.dst) fun ρ2 w2 a2 cx2 ext2 d2 => hQ ρ2 w2 a2 cx2 (hx'.trans ext2) (d2.trans (hputd _ _))
                · cases h
              · split at h
                · rename_i id args hcal
                  split at h
                  · rename_i x1 v H1 hrun
                    obtain ⟨t, vs, ht, hvs, hexec⟩ := yield_enter cx hm hcall hcal
                    obtain ⟨fn, tmps, A, B, hy1, hy2⟩ := ihY id args H x1 v H1 hrun ρ w t vs cx.rel cx.glob ht hvs
                    rw [hexec, hy1, Oper.uponIn_round]
                    refine ⟨fun hh => by simp [F0, Fence.wide] at hh, roundIn_F0 rr (hy2.mono ?_)⟩
                    rintro en w' ⟨ρ', u, rfl, au, hr', hx'⟩
                    exact ihO rr ops r hr _ H1 x e' H' h ρ' w' _ Q (cx.put hr' hx' au o.dst) fun ρ2 w2 a2 cx2 ext2 d2 => hQ ρ2 w2 a2 cx2 (hx'.trans ext2) (d2.trans (hputd _ _))
                  · cases h
                · cases h
            · rename_i hcall
              split at h
              · rename_i v H1 hop
                obtain ⟨ρ', w', u, hrun, au, hr', hx'⟩ := op_sim hX cx hm hcall hop
                have next := ihO rr ops r hr _ H1 x e' H' h ρ' w' _ Q (cx.put hr' hx' au o.dst) fun ρ2 w2 a2 cx2 ext2 d2 => hQ ρ2 w2 a2 cx2 (hx'.trans ext2) (d2.trans (hputd _ _))
                rcases hrun with hrun | ⟨hrun, rfl⟩
                · rw [hrun, Oper.uponIn_value]; exact next
                · rw [hrun, Oper.uponIn_skip]; exact next
              · cases h
        · rw [hco] at h
          simp [wantedA, isCall, opA, pureA] at h
    · intro f args H x v H' h ρ w vs hr hg ha
      simp only [run] at h
      split at h
      · cases h
      · rename_i m hm
        obtain ⟨hX0, ⟨fn, c, hf, hb, hcc, hnt, hres⟩ | ⟨rfl, hk⟩⟩ := hD f m hm
        rotate_left
        · cases n with
          | zero => simp [run] at h
          | succ n =>
            simp only [knownM, run] at h
            cases args with
            | cons a1 ar => simp at h
            | nil =>
              cases vs with
              | cons _ _ => exact ha.elim
              | nil =>
                simp only [List.nil_append, List.length_nil, Nat.sub_zero, List.replicate_zero, resultsA, resultsAll, resultA, Option.map_some, Option.map_none, List.getD_cons_zero, Option.some.injEq, Prod.mk.injEq, List.cons.injEq, and_true] at h
                obtain ⟨_, rfl, rfl⟩ := h
                refine (hk w hr.below).mono ?_
                rintro en w' ⟨rfl, hb⟩
                exact ⟨ρ, _, rfl, rfl, hr.later hb, Ext.refl _ _⟩
        have cx : Cx P X w0 ρ H w (args ++ List.replicate (m.ntmps - args.length) undefA) { tmps := vs.toArray ++ Array.replicate (fn.ntmps - vs.toArray.size) Go.undef, defers := [] } :=
          ⟨hr, by
            show LR _ _ _
            simp only [Array.toList_append, Array.toList_replicate, List.size_toArray, hnt, ← ha.length]
            exact ha.append (LR.replicate (AVR.undef ρ) _), hg⟩
        have fin : ∀ (x' : Ex) (e1 : List AV) (H1 : Heap), run D n (.code m.code (args ++ List.replicate (m.ntmps - args.length) undefA) H) = some (x', e1, H1) → (x' = .normal ∨ x' = .ret) → resultsA m.results e1 H1 = some v → H1 = H' → Calls P f vs.toArray w (Left P X w0 ρ H v H') := by
          intro x' e1 H1 h1 hx' hr1 hH
          subst hH
          rw [← callsIn_wide (n := 0)]
          refine callsIn_of_wp_marks (F := F0 none) hf hb trivial ?_
          rcases hcc with ⟨hnr, hcc⟩ | hcc
          · rw [← hcc] at h1
            refine ihC none c _ H x' e1 H1 (fun hh => by cases hh) h1 ρ w _ _ cx fun ρ1 w1 a1 cx1 ext1 d1 => ?_
            obtain ⟨u, hu, au⟩ := result_sound cx1 hres hr1
            have hd0 := d1.2 hnr
            rcases hx' with rfl | rfl
            · show LeavesInM _ _ _ _ _ _ _ _ _
              rw [hd0]
              exact ⟨u, hu, ρ1, u, rfl, au, cx1.rel, ext1⟩
            · show LeavesInM _ _ _ _ _ _ _ _ _
              rw [hd0]
              exact ⟨u, hu, ρ1, u, rfl, au, cx1.rel, ext1⟩
          · rw [← hcc] at h1
            cases n with
            | zero => simp [run] at h1
            | succ n =>
            simp only [run] at h1
            split at h1
            · rename_i x2 e2 H2 h2
              simp only [Option.some.injEq, Prod.mk.injEq] at h1
              obtain ⟨rfl, rfl, rfl⟩ := h1
              refine (ihAll n (by omega)).1 none c _ H x2 e2 H2 (fun hh => by cases hh) h2 ρ w _ _ cx fun ρ1 w1 a1 cx1 ext1 d1 => ?_
              obtain ⟨⟨ms, ids, hds, hnd, hge, hlr⟩, _⟩ := d1
              simp only [List.append_nil] at hds
              obtain ⟨Ds, rfl, b1, b2, b3⟩ := marks_blocks cx1.rel hnd hlr
              have main : LeavesInM (F0 none) 0 P fn a1.tmps (Left P X w0 ρ H v (H2.shut H.n)) a1.defers .returning w1 := by
                rw [hds]
                refine leaves_marks Ds w1 b1 b2 fun w' k1 k2 k3 k4 k5 => ?_
                have r' : Rel P X w0 ρ1 (H2.shut H.n) w' := cx1.rel.shut ext1.size (fun k hk => k1 k fun hin => by
                  obtain ⟨id, hid, t, q1, q2, q3⟩ := b3 k hin
                  exact hk id t (hge id hid) q1 q2 q3) k2 k3 k4 k5
                obtain ⟨u, hu, au⟩ := result_sound (⟨r', cx1.er, cx1.glob⟩ : Cx P X w0 ρ1 (H2.shut H.n) w' e2 a1) hres hr1
                refine ⟨u, hu, ρ1, u, rfl, au, r', ⟨ext1.sub, ext1.new, ext1.size, fun id hid h0 => ?_, fun id hid => ?_⟩⟩
                · rw [Heap.get_shut cx1.rel.wf _ _ ext1.size, if_neg (by omega)]
                  exact ext1.kept id hid h0
                · have := Heap.get_lt hid
                  rw [Heap.get_shut cx1.rel.wf _ _ ext1.size, if_neg (by omega)]
                  exact ext1.mark id hid
              rcases hx' with rfl | rfl
              · exact main
              · exact main
            · cases h1
        split at h
        · rename_i e1 H1 h1
          simp only [Option.map_eq_some_iff, Prod.mk.injEq, List.cons.injEq, and_true] at h
          obtain ⟨v', hv', _, hvv, hH⟩ := h
          subst hvv
          exact fin .normal e1 H1 h1 (.inl rfl) hv' hH
        · rename_i e1 H1 h1
          simp only [Option.map_eq_some_iff, Prod.mk.injEq, List.cons.injEq, and_true] at h
          obtain ⟨v', hv', _, hvv, hH⟩ := h
          subst hvv
          exact fin .ret e1 H1 h1 (.inr rfl) hv' hH
        · cases h
    · intro id args H x v H' h ρ w t vs hr hg ht ha
      simp only [run] at h
      split at h
      · rename_i e0 ps asg body d0 hget0
        split at h
        · rename_i hlen
          split at h
          · rename_i e1 H1 h1
            split at h
            · rename_i e2 ps2 a2 b2 d2 hget1
              split at h
              · rename_i x3 e3 H3 h3
                split at h
                · rename_i e4 ps4 a4 b4 d4 hget3
                  obtain ⟨fn, tmps, A, B, td, ls, pe, o1, o2, rfl, rfl, o5, o6, o7, o8, o9, o10⟩ := hr.objs _ _ _ ht hget0
                  have hsz : vs.toArray.size = ps.toArray.size := by simp [← ha.length, hlen]
                  refine ⟨fn, _, A, B, run_yield o1 hsz, ?_⟩
                  refine roundIn_of_wpIn (F := Fence.wide) trivial ?_
                  have cx : Cx P X w0 ρ H w (setAll e0 ps args) { tmps := (ps.toArray.zip vs.toArray).foldl (fun t (p, v) => t.setIfInBounds p v) tmps, defers := [] } := ⟨hr, er_setAll ps args e0 vs tmps ha o2, hg⟩
                  refine ihC (some t.block) A _ H .normal e1 H1 (fun _ => o5) h1 ρ w _ _ cx fun ρ1 w1 a1 cx1 ext1 d1 => ?_
                  obtain ⟨rec1, g1, g2, g3⟩ := loop_turn (st' := .busy) cx1.rel (ext1.sub _ _ ht) hget1
                  obtain ⟨r2, x2⟩ := g3 .busy none ⟨rfl, rfl⟩ _ rfl
                  have hr2 : { rec1 with state := LoopState.busy, pending := none } = { rec1 with state := LoopState.busy } := by
                    have := g2.2
                    cases rec1; simp_all
                  rw [hr2] at r2
                  refine ⟨_, run_beginRound g1 g2.1, ?_⟩
                  have cx2 : Cx P X w0 ρ1 (H1.set id (.loop e2 ps2 a2 b2 .busy d2)) (w1.putObj t.block (.loop { rec1 with state := .busy })) e1 a1 := ⟨r2, x2.er cx1.er, fun g hg => x2.sub _ _ (cx1.glob g hg)⟩
                  refine ihC (some t.block) B _ _ x3 e3 H3 (fun _ => o6) h3 ρ1 _ _ _ cx2 fun ρ3 w3 a3 cx3 ext3 d3 => ?_
                  have hid3 := ext3.sub _ _ (x2.sub _ _ (ext1.sub _ _ ht))
                  have hext : Ext ρ H ρ3 H3 := (ext1.trans x2).trans ext3
                  cases x3 with
                  | normal =>
                    simp only [Option.some.injEq, Prod.mk.injEq, List.cons.injEq, and_true] at h
                    obtain ⟨_, rfl, rfl⟩ := h
                    obtain ⟨rec3, q1, q2, q3⟩ := loop_turn (st' := .ready) cx3.rel hid3 hget3
                    obtain ⟨r4, x4⟩ := q3 .ready none ⟨rfl, rfl⟩ _ rfl
                    exact ⟨_, _, run_endRound none q1, ρ3, _, rfl, rfl, r4, hext.trans x4⟩
                  | exit j =>
                    simp only [Option.some.injEq, Prod.mk.injEq, List.cons.injEq, and_true] at h
                    obtain ⟨_, rfl, rfl⟩ := h
                    obtain ⟨rec3, q1, q2, q3⟩ := loop_turn (st' := .done (.exit j)) cx3.rel hid3 hget3
                    obtain ⟨r4, x4⟩ := q3 .done (some (.exit j)) ⟨rfl, rfl⟩ _ rfl
                    exact ⟨_, _, run_endRound (some (.exit j)) q1, ρ3, _, rfl, rfl, r4, hext.trans x4⟩
                  | ret =>
                    simp only [Option.some.injEq, Prod.mk.injEq, List.cons.injEq, and_true] at h
                    obtain ⟨_, rfl, rfl⟩ := h
                    obtain ⟨rec3, q1, q2, q3⟩ := loop_turn (st' := .done .ret) cx3.rel hid3 hget3
                    obtain ⟨r4, x4⟩ := q3 .done (some .ret) ⟨rfl, rfl⟩ _ rfl
                    exact ⟨_, _, run_endRound (some .ret) q1, ρ3, _, rfl, rfl, r4, hext.trans x4⟩
                · cases h
              · cases h
            · cases h
          · cases h
        · cases h
      · cases h

end
end Go.Jx
