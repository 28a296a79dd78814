/-
  Regions that draw their order: the theorem.
-/
import Derived.Test.YtfmldkjidfigbaaDoorJxDrawSim
namespace Go.Jx
open Go Go.RowKit
set_option linter.unusedSimpArgs false
set_option linter.unusedVariables false

theorem least {p : Nat → Prop} (h : ∃ n, p n) : ∃ n, p n ∧ ∀ m, m < n → ¬ p m := by
  obtain ⟨n, hn⟩ := h
  induction n using Nat.strongRecOn with
  | _ n ih =>
    by_cases hh : ∃ m, m < n ∧ p m
    · obtain ⟨m, hm, hp⟩ := hh; exact ih m hm hp
    · exact ⟨n, hn, fun m hm hp => hh ⟨m, hm, hp⟩⟩
theorem greatest {p : Nat → Prop} (N : Nat) (h : ∃ n, n < N ∧ p n) : ∃ n, n < N ∧ p n ∧ ∀ m, m < N → n < m → ¬ p m := by
  obtain ⟨n, hn, hp⟩ := h
  obtain ⟨k, ⟨hk1, hk2⟩, hk3⟩ := least (p := fun k => k < N ∧ p (N - 1 - k)) ⟨N - 1 - n, by omega, by rw [show N - 1 - (N - 1 - n) = n by omega]; exact hp⟩
  refine ⟨N - 1 - k, by omega, hk2, fun m hm hlt hpm => hk3 (N - 1 - m) (by omega) ⟨by omega, by rw [show N - 1 - (N - 1 - m) = m by omega]; exact hpm⟩⟩

section
variable {P : Program} {w0 w : World} {ρ : Rho} {H : Heap} {e : List AV} {a : Act} {X : Exts} {D : Nat → Option MFunc}

theorem drawOk_spec {ons : List (List Nat)} {tb : List Nat} {ms : List MI} (h : drawOk ons tb ms = true) :
    ons.length = ms.length ∧
    (∀ (k : Nat) (b : List Nat), ons[k]? = some b → ∀ j ∈ b, j < k) ∧
    (∀ (i j : Nat) (mi mj : MI), ms[i]? = some mi → ms[j]? = some mj → clsOf mi.op = 2 → clsOf mj.op = 2 → i < j → ahead tb j i = true) ∧
    (∀ (i j : Nat) (mi mj : MI), i ≠ j → ms[i]? = some mi → ms[j]? = some mj → ∀ d, mj.dst = some d → mi.dst ≠ some d ∧ (d ∈ miReads mi → if j < i then ahead tb i j = true else ahead tb j i = true)) := by
  unfold drawOk at h
  simp only [Bool.and_eq_true, beq_iff_eq] at h
  obtain ⟨⟨⟨h1, h2⟩, h3⟩, h4⟩ := h
  refine ⟨h1, ?_, ?_, ?_⟩
  · intro k b hk j hj
    have hlt : k < ms.length := by rw [← h1]; exact (List.getElem?_eq_some_iff.1 hk).1
    rw [List.all_eq_true] at h2
    have := h2 k (by simpa using hlt)
    rw [List.all_eq_true] at this
    have hg : ons.getD k [] = b := by simp [List.getD, hk]
    rw [hg] at this
    simpa using this j hj
  · intro i j mi mj hi hj ci cj hlt
    rw [List.all_eq_true] at h3
    have mem : ∀ (i : Nat) (mi : MI), ms[i]? = some mi → clsOf mi.op = 2 → i ∈ (List.range ms.length).filter (fun i => match ms[i]? with | some m => clsOf m.op == 2 | none => false) := by
      intro i mi hi ci
      rw [List.mem_filter]
      refine ⟨by simpa using (List.getElem?_eq_some_iff.1 hi).1, ?_⟩
      simp only [hi, ci, beq_self_eq_true]
    have := h3 i (mem i mi hi ci)
    rw [List.all_eq_true] at this
    have := this j (mem j mj hj cj)
    simp only [Bool.or_eq_true, decide_eq_true_eq] at this
    rcases this with h | h
    · omega
    · exact h
  · intro i j mi mj hne hi hj d hd
    rw [List.all_eq_true] at h4
    have := h4 i (by simpa using (List.getElem?_eq_some_iff.1 hi).1)
    rw [List.all_eq_true] at this
    have := this j (by simpa using (List.getElem?_eq_some_iff.1 hj).1)
    simp only [Bool.or_eq_true, beq_iff_eq, hne, false_or, hi, hj, hd, Bool.and_eq_true, bne_iff_ne, ne_eq, Bool.not_eq_true', List.contains_eq_mem, decide_eq_false_iff_not] at this
    refine ⟨this.1, fun hm => ?_⟩
    rcases this.2 with h | h
    · exact absurd hm h
    · split at h
      · rename_i hlt; rw [if_pos hlt]; exact h
      · rename_i hlt; rw [if_neg hlt]; exact h

theorem clsOf_le (m : MOp) : clsOf m = 0 ∨ clsOf m = 1 ∨ clsOf m = 2 := by
  unfold clsOf
  split
  · exact .inl rfl
  · split
    · exact .inr (.inl rfl)
    · exact .inr (.inr rfl)

def onsOf (ops : Array Oper) : List (List Nat) := ops.toList.map fun o => (o.after.toList.filter (Region.binds .any)).map (·.on)
def msOf (P : Program) (X : Exts) (ops : Array Oper) : List MI := ops.toList.map (cOper P X ops.toList)
def actsOf (ms : List MI) : List Nat := (List.range ms.length).filter fun i => match ms[i]? with | some m => clsOf m.op == 2 | none => false
def disOf (tb : List Nat) (ms : List MI) : List DI := ms.zipIdx.map fun x => mkDI tb (actsOf ms) x.2 x.1

theorem dis_get {tb : List Nat} {ms : List MI} {i : Nat} {m : MI} (h : ms[i]? = some m) : (disOf tb ms)[i]? = some (mkDI tb (actsOf ms) i m) := by
  simp [disOf, List.getElem?_map, List.getElem?_zipIdx, h]
theorem dis_get' {tb : List Nat} {ms : List MI} {i : Nat} {d : DI} (h : (disOf tb ms)[i]? = some d) : ∃ m, ms[i]? = some m ∧ d = mkDI tb (actsOf ms) i m := by
  simp only [disOf, List.getElem?_map, List.getElem?_zipIdx, Option.map_map, Option.map_eq_some_iff, Nat.zero_add] at h
  obtain ⟨m, hm, rfl⟩ := h
  exact ⟨m, hm, rfl⟩
theorem isAct_iff {tb : List Nat} {acts : List Nat} {i : Nat} {m : MI} : isAct (mkDI tb acts i m) = true ↔ clsOf m.op = 2 := by
  rcases clsOf_le m.op with h | h | h <;> simp [isAct, mkDI, h]
theorem acts_mem {ms : List MI} {i : Nat} {m : MI} (h : ms[i]? = some m) (hc : clsOf m.op = 2) : i ∈ actsOf ms := by
  unfold actsOf
  rw [List.mem_filter]
  refine ⟨by simpa using (List.getElem?_eq_some_iff.1 h).1, ?_⟩
  simp only [h, hc, beq_self_eq_true]

theorem list_ext {e e' : List AV} (hl : e.length = e'.length) (h : ∀ x, e.getD x undefA = e'.getD x undefA) : e = e' := by
  apply List.ext_getElem hl
  intro i h1 h2
  have := h i
  simpa [List.getD, h1, h2] using this

/-- What holds when these have been carried out. -/
structure DInv (P : Program) (w0 : World) (ons : List (List Nat)) (L : List DI) (rs : List Rec) (e0 : List AV) (ρ0 : Rho) (H0 : Heap) (listed : Array Bool) (a : Act) (w : World) : Prop where
  size : listed.size = L.length
  closed : ∀ k b, listed.getD k false = true → ons[k]? = some b → ∀ j ∈ b, listed.getD j false = true
  st : ∃ ρ, Cx P w0 ρ (curP (fun k => listed.getD k false) L rs 0 H0) w (envP (fun k => listed.getD k false) L rs 0 e0) a ∧ Ext ρ0 H0 ρ (curP (fun k => listed.getD k false) L rs 0 H0)

theorem getD_set (listed : Array Bool) (i k : Nat) (hi : i < listed.size) : (listed.setIfInBounds i true).getD k false = (if k = i then true else listed.getD k false) := by
  simp only [Array.getD_eq_getD_getElem?, Array.getElem?_setIfInBounds]
  by_cases h : k = i
  · subst h; simp [hi]
  · simp [h, Ne.symm h]

theorem draw_step {ops : Array Oper} {N : Nat} {rs : List Rec} {e0 e' : List AV} {ρ0 : Rho} {H0 H' : Heap} (hX : ExtOk P X) (hD : FunOk P w0 X D) (hF : ∀ k, k < N → CallOk P w0 X D k)
    (hok : drawOk (onsOf ops) (tblGo (onsOf ops) []) (msOf P X ops) = true) (hch : Chain D N (disOf (tblGo (onsOf ops) []) (msOf P X ops)) rs e0 H0 e' H')
    (hck : checkLoads rs (disOf (tblGo (onsOf ops) []) (msOf P X ops)) rs = true) {Q : Exit → Act → World → Prop} {listed : Array Bool} (inv : DInv P w0 (onsOf ops) (disOf (tblGo (onsOf ops) []) (msOf P X ops)) rs e0 ρ0 H0 listed a w)
    {i : Nat} (hi : i < ops.size) (hnl : listed.getD i false = false) (hready : ∀ b, (onsOf ops)[i]? = some b → ∀ j ∈ b, listed.getD j false = true) :
    wpOp P ops Q i (fun a' w' => DInv P w0 (onsOf ops) (disOf (tblGo (onsOf ops) []) (msOf P X ops)) rs e0 ρ0 H0 (listed.setIfInBounds i true) a' w') a w := by
  obtain ⟨s1, s2, s3, s4⟩ := drawOk_spec hok
  obtain ⟨o, ho⟩ : ∃ o, ops[i]? = some o := ⟨ops[i], by simp [hi]⟩
  have hm : (msOf P X ops)[i]? = some (cOper P X ops.toList o) := by simp [msOf, List.getElem?_map, ho]
  have hd := dis_get (tb := tblGo (onsOf ops) []) hm
  obtain ⟨r, hr, hrec, hrh, hrh'⟩ := chain_get _ rs 0 i e0 H0 e' H' _ hch hd
  simp only [Nat.zero_add] at hrec hrh hrh'
  have hlsz : i < listed.size := by rw [inv.size]; exact (List.getElem?_eq_some_iff.1 hd).1
  have hL : ∀ k, listed.getD k false = true → k < (onsOf ops).length := by
    intro k hk
    have : k < listed.size := by
      rcases Nat.lt_or_ge k listed.size with h | h
      · exact h
      · have hz : listed[k]? = none := Array.getElem?_eq_none h
        simp [Array.getD_eq_getD_getElem?, hz] at hk
    rw [inv.size] at this
    rw [s1]
    have hlen : (disOf (tblGo (onsOf ops) []) (msOf P X ops)).length = (msOf P X ops).length := by simp [disOf]
    omega
  -- who must stand ahead
  have hahead : ∀ j, ahead (tblGo (onsOf ops) []) i j = true → listed.getD j false = true := fun j h => ahead_closed (onsOf ops) _ inv.closed hL i j hready h
  have hbehind : ∀ j, ahead (tblGo (onsOf ops) []) j i = true → listed.getD j false = false := by
    intro j h
    cases hj : listed.getD j false with
    | false => rfl
    | true =>
      have := ahead_closed (onsOf ops) _ inv.closed hL j i (fun b hb => inv.closed j b hj hb) h
      rw [hnl] at this; cases this
  -- the slots that are read
  have hread : ∀ x ∈ miReads (cOper P X ops.toList o), (envP (fun k => listed.getD k false) (disOf (tblGo (onsOf ops) []) (msOf P X ops)) rs 0 e0).getD x undefA = (envP (fun j => decide (j < i)) (disOf (tblGo (onsOf ops) []) (msOf P X ops)) rs 0 e0).getD x undefA := by
    intro x hx
    refine envP_agree _ _ x _ rs 0 e0 e0 (fun j d hj hdst => ?_) rfl rfl
    obtain ⟨mj, hmj, rfl⟩ := dis_get' hj
    simp only [Nat.zero_add]
    by_cases hji : j = i
    · subst hji; rw [hnl]; simp
    · have := (s4 i j _ mj (Ne.symm hji) hm hmj x hdst).2 hx
      split at this
      · rename_i hlt; rw [hahead j this]; simp [hlt]
      · rename_i hlt; rw [hbehind j this]; simp; omega
  have hagree : Agree (reads (cOper P X ops.toList o).op) (envP (fun k => listed.getD k false) (disOf (tblGo (onsOf ops) []) (msOf P X ops)) rs 0 e0) (envP (fun j => decide (j < i)) (disOf (tblGo (onsOf ops) []) (msOf P X ops)) rs 0 e0) :=
    fun x hx => hread x (by unfold miReads; exact List.mem_append.2 (.inl hx))
  have hgagree : wantedA (envP (fun k => listed.getD k false) (disOf (tblGo (onsOf ops) []) (msOf P X ops)) rs 0 e0) (cOper P X ops.toList o).guard = wantedA (envP (fun j => decide (j < i)) (disOf (tblGo (onsOf ops) []) (msOf P X ops)) rs 0 e0) (cOper P X ops.toList o).guard :=
    wanted_congr _ fun x hx => hread x (by unfold miReads; exact List.mem_append.2 (.inr hx))
  -- the slots behind it
  have hput : envP (fun k => (listed.setIfInBounds i true).getD k false) (disOf (tblGo (onsOf ops) []) (msOf P X ops)) rs 0 e0 = Jx.put (envP (fun k => listed.getD k false) (disOf (tblGo (onsOf ops) []) (msOf P X ops)) rs 0 e0) (cOper P X ops.toList o).dst r.v := by
    apply list_ext
    · rw [envP_length, put_length, envP_length]
    · intro x
      by_cases hdx : (cOper P X ops.toList o).dst = some x
      · have h1 : (envP (fun k => (listed.setIfInBounds i true).getD k false) (disOf (tblGo (onsOf ops) []) (msOf P X ops)) rs 0 e0).getD x undefA = (envP (fun k => k == 0 + i) (disOf (tblGo (onsOf ops) []) (msOf P X ops)) rs 0 e0).getD x undefA := by
          refine envP_agree _ _ x _ rs 0 e0 e0 (fun j d hj hdst => ?_) rfl rfl
          obtain ⟨mj, hmj, rfl⟩ := dis_get' hj
          simp only [Nat.zero_add]
          by_cases hji : j = i
          · subst hji; rw [getD_set _ _ _ hlsz]; simp
          · exact absurd hdx (s4 i j _ mj (Ne.symm hji) hm hmj x hdst).1
        rw [h1, envP_single _ rs 0 i e0 _ r hd hr]
        show (Jx.put e0 (cOper P X ops.toList o).dst r.v).getD x undefA = _
        rw [hdx]
        exact put_get_eq (by rw [envP_length])
      · rw [put_get_ne hdx]
        refine envP_agree _ _ x _ rs 0 e0 e0 (fun j d hj hdst => ?_) rfl rfl
        obtain ⟨mj, hmj, rfl⟩ := dis_get' hj
        simp only [Nat.zero_add]
        have hji : j ≠ i := by
          rintro rfl
          rw [hm] at hmj; cases hmj
          exact hdx hdst
        rw [getD_set _ _ _ hlsz, if_neg hji]
  -- memory
  have hcurU : clsOf (cOper P X ops.toList o).op ≠ 2 → curP (fun k => (listed.setIfInBounds i true).getD k false) (disOf (tblGo (onsOf ops) []) (msOf P X ops)) rs 0 H0 = curP (fun k => listed.getD k false) (disOf (tblGo (onsOf ops) []) (msOf P X ops)) rs 0 H0 := by
    intro hc
    refine curP_agree _ _ _ rs 0 H0 fun j d hj ha => ?_
    obtain ⟨mj, hmj, rfl⟩ := dis_get' hj
    simp only [Nat.zero_add]
    have hji : j ≠ i := by
      rintro rfl
      rw [hm] at hmj; cases hmj
      exact hc (isAct_iff.1 ha)
    rw [getD_set _ _ _ hlsz, if_neg hji]
  have hcurA : clsOf (cOper P X ops.toList o).op = 2 → curP (fun k => listed.getD k false) (disOf (tblGo (onsOf ops) []) (msOf P X ops)) rs 0 H0 = r.h ∧ curP (fun k => (listed.setIfInBounds i true).getD k false) (disOf (tblGo (onsOf ops) []) (msOf P X ops)) rs 0 H0 = r.h' := by
    intro hc
    have hside : ∀ j mj, (msOf P X ops)[j]? = some mj → clsOf mj.op = 2 → j ≠ i → listed.getD j false = decide (j < i) := by
      intro j mj hmj hcj hji
      rcases Nat.lt_or_ge j i with h | h
      · rw [hahead j (s3 j i mj _ hmj hm hcj hc h)]; simp [h]
      · rw [hbehind j (s3 i j _ mj hm hmj hc hcj (by omega))]; simp; omega
    constructor
    · rw [hrh]
      refine curP_agree _ _ _ rs 0 H0 fun j d hj ha => ?_
      obtain ⟨mj, hmj, rfl⟩ := dis_get' hj
      simp only [Nat.zero_add]
      by_cases hji : j = i
      · subst hji; rw [hnl]; simp
      · exact hside j mj hmj (isAct_iff.1 ha) hji
    · rw [hrh']
      refine curP_agree _ _ _ rs 0 H0 fun j d hj ha => ?_
      obtain ⟨mj, hmj, rfl⟩ := dis_get' hj
      simp only [Nat.zero_add]
      rw [getD_set _ _ _ hlsz]
      by_cases hji : j = i
      · subst hji; simp
      · rw [if_neg hji, hside j mj hmj (isAct_iff.1 ha) hji]
        congr 1
        simp only [eq_iff_iff]; omega
  obtain ⟨ρ, cx, ext⟩ := inv.st
  have hclosed : ∀ k b, (listed.setIfInBounds i true).getD k false = true → (onsOf ops)[k]? = some b → ∀ j ∈ b, (listed.setIfInBounds i true).getD j false = true := by
    intro k b hk hb j hj
    rw [getD_set _ _ _ hlsz] at hk ⊢
    by_cases hji : j = i
    · rw [if_pos hji]
    · rw [if_neg hji]
      by_cases hki : k = i
      · subst hki; exact hready b hb j hj
      · rw [if_neg hki] at hk; exact inv.closed k b hk hb j hj
  -- the end of a step
  have fin : ∀ (v : AV) (ρ' : Rho) (w' : World) (u : Value) (H1 : Heap), v = r.v → H1 = curP (fun k => (listed.setIfInBounds i true).getD k false) (disOf (tblGo (onsOf ops) []) (msOf P X ops)) rs 0 H0 →
      AVR ρ' v u → Rel P w0 ρ' H1 w' → Ext ρ (curP (fun k => listed.getD k false) (disOf (tblGo (onsOf ops) []) (msOf P X ops)) rs 0 H0) ρ' H1 → (cOper P X ops.toList o).dst = o.dst →
      DInv P w0 (onsOf ops) (disOf (tblGo (onsOf ops) []) (msOf P X ops)) rs e0 ρ0 H0 (listed.setIfInBounds i true) (a.put o.dst u) w' := by
    intro v ρ' w' u H1 hv hH hav hrel hext hdst
    subst hv
    refine ⟨by simp [inv.size], hclosed, ρ', ?_, ?_⟩
    · rw [hput, ← hH, hdst]
      exact cx.put hrel hext hav o.dst
    · rw [← hH]; exact ext.trans hext
  unfold wpOp
  simp only [ho]
  rcases cOper_cases P X ops.toList o with ⟨m, g, hcm, hcg, hco⟩ | hco
  · have hdst : (cOper P X ops.toList o).dst = o.dst := by rw [hco]
    rw [hco] at hagree hgagree hcurU hcurA hrec
    simp only at hagree hgagree hcurU hcurA
    rw [wanted_eq cx hcg, hgagree]
    rcases hrec with ⟨hw, hon, hv, hh⟩ | ⟨hw, hon, hcase⟩
    · simp only [mkDI] at hw
      simp only [hw, Bool.false_eq_true, if_false]
      refine fin undefA ρ w Go.undef _ hv.symm ?_ (AVR.undef ρ) cx.rel (Ext.refl _ _) hdst
      rcases Nat.decEq (clsOf m) 2 with hc | hc
      · exact (hcurU hc).symm
      · obtain ⟨q1, q2⟩ := hcurA hc
        rw [q1, q2, hh]
    · simp only [mkDI] at hw hcase
      simp only [hw, if_true]
      left
      unfold Oper.wp
      obtain ⟨cg1, cg2, cg3⟩ := opA_congr m hagree r.h
      rcases hcase with ⟨hc, hp, hh⟩ | ⟨hc, ⟨agg, x, hop, hx, hl⟩, hh⟩ | ⟨hc0, hc1, hact⟩
      · -- pure
        rw [← cg1] at hp
        obtain ⟨u, hu, au⟩ := pure_sim hX cx hcm hp
        rw [hu, Oper.upon_value]
        exact fin r.v ρ w u _ rfl (hcurU (by omega)).symm au cx.rel (Ext.refl _ _) hdst
      · -- a load
        subst hop
        have hx' : rd (envP (fun k => listed.getD k false) (disOf (tblGo (onsOf ops) []) (msOf P X ops)) rs 0 e0) x = r.x := by rw [hx]; exact hagree.rd
        have hc2 : clsOf (MOp.load agg x) ≠ 2 := by rw [hc]; omega
        obtain ⟨ck1, ck2⟩ := check_get rs _ rs i _ r hck hd hr (by rw [hco]; simpa [mkDI] using hc) hon
        rw [hco] at ck1 ck2
        simp only [mkDI] at ck1 ck2
        have hload : loadA agg r.x (curP (fun k => listed.getD k false) (disOf (tblGo (onsOf ops) []) (msOf P X ops)) rs 0 H0) = some r.v := by
          have hN : (disOf (tblGo (onsOf ops) []) (msOf P X ops)).length = (msOf P X ops).length := by simp [disOf]
          by_cases hB : ∃ j, j < (msOf P X ops).length ∧ (i < j ∧ listed.getD j false = true ∧ ∃ mj, (msOf P X ops)[j]? = some mj ∧ clsOf mj.op = 2)
          · obtain ⟨j, hjN, ⟨hij, hjl, mj, hmj, hcj⟩, hjmax⟩ := greatest _ hB
            have hnt : ahead (tblGo (onsOf ops) []) j i = false := by
              cases hh : ahead (tblGo (onsOf ops) []) j i with
              | false => rfl
              | true => rw [hbehind j hh] at hjl; cases hjl
            obtain ⟨q, hq, hqi⟩ := ck2 j (by rw [List.mem_filter]; exact ⟨acts_mem hmj hcj, by simp [hij, hnt]⟩)
            have hqv := loadIs_eq hqi
            obtain ⟨q', hq', _, _, hq'h⟩ := chain_get _ rs 0 j e0 H0 e' H' _ hch (dis_get (tb := tblGo (onsOf ops) []) hmj)
            rw [hq] at hq'; cases hq'
            simp only [Nat.zero_add] at hq'h
            have : curP (fun k => listed.getD k false) (disOf (tblGo (onsOf ops) []) (msOf P X ops)) rs 0 H0 = q.h' := by
              rw [hq'h]
              refine curP_agree _ _ _ rs 0 H0 fun k d hk ha => ?_
              obtain ⟨mk, hmk, rfl⟩ := dis_get' hk
              simp only [Nat.zero_add]
              have hck := isAct_iff.1 ha
              by_cases hkj : k = j
              · subst hkj; rw [hjl]; simp
              · rcases Nat.lt_or_ge k j with h | h
                · have := ahead_closed (onsOf ops) _ inv.closed hL j k (fun b hb => inv.closed j b hjl hb) (s3 k j mk mj hmk hmj hck hcj h)
                  rw [this]; simp; omega
                · have hkl : listed.getD k false = false := by
                    cases hh : listed.getD k false with
                    | false => rfl
                    | true => exact absurd ⟨by omega, hh, mk, hmk, hck⟩ (hjmax k ((List.getElem?_eq_some_iff.1 hmk).1) (by omega))
                  rw [hkl]; simp; omega
            rw [this]; exact hqv
          · have hB' : ∀ j mj, i < j → (msOf P X ops)[j]? = some mj → clsOf mj.op = 2 → listed.getD j false = false := by
              intro j mj hij hmj hcj
              cases hh : listed.getD j false with
              | false => rfl
              | true => exact absurd ⟨j, (List.getElem?_eq_some_iff.1 hmj).1, hij, hh, mj, hmj, hcj⟩ hB
            by_cases hC : ∃ j, j < i ∧ listed.getD j false = false ∧ ∃ mj, (msOf P X ops)[j]? = some mj ∧ clsOf mj.op = 2
            · obtain ⟨j, ⟨hji, hjl, mj, hmj, hcj⟩, hjmin⟩ := least hC
              have hnt : ahead (tblGo (onsOf ops) []) i j = false := by
                cases hh : ahead (tblGo (onsOf ops) []) i j with
                | false => rfl
                | true => rw [hahead j hh] at hjl; cases hjl
              obtain ⟨q, hq, hqi⟩ := ck1 j (by rw [List.mem_filter]; exact ⟨acts_mem hmj hcj, by simp [hji, hnt]⟩)
              have hqv := loadIs_eq hqi
              obtain ⟨q', hq', _, hq'h, _⟩ := chain_get _ rs 0 j e0 H0 e' H' _ hch (dis_get (tb := tblGo (onsOf ops) []) hmj)
              rw [hq] at hq'; cases hq'
              simp only [Nat.zero_add] at hq'h
              have : curP (fun k => listed.getD k false) (disOf (tblGo (onsOf ops) []) (msOf P X ops)) rs 0 H0 = q.h := by
                rw [hq'h]
                refine curP_agree _ _ _ rs 0 H0 fun k d hk ha => ?_
                obtain ⟨mk, hmk, rfl⟩ := dis_get' hk
                simp only [Nat.zero_add]
                have hck := isAct_iff.1 ha
                by_cases hkj : k = j
                · subst hkj; rw [hjl]; simp
                · rcases Nat.lt_or_ge k j with h | h
                  · have hkl : listed.getD k false = true := by
                      cases hh : listed.getD k false with
                      | true => rfl
                      | false => exact absurd ⟨by omega, hh, mk, hmk, hck⟩ (hjmin k h)
                    rw [hkl]; simp [h]
                  · have hkl : listed.getD k false = false := by
                      cases hh : listed.getD k false with
                      | false => rfl
                      | true =>
                        have := ahead_closed (onsOf ops) _ inv.closed hL k j (fun b hb => inv.closed k b hh hb) (s3 j k mj mk hmj hmk hcj hck (by omega))
                        rw [hjl] at this; cases this
                    rw [hkl]; simp; omega
              rw [this]; exact hqv
            · have : curP (fun k => listed.getD k false) (disOf (tblGo (onsOf ops) []) (msOf P X ops)) rs 0 H0 = r.h := by
                rw [hrh]
                refine curP_agree _ _ _ rs 0 H0 fun k d hk ha => ?_
                obtain ⟨mk, hmk, rfl⟩ := dis_get' hk
                simp only [Nat.zero_add]
                have hck := isAct_iff.1 ha
                by_cases hki : k = i
                · subst hki; rw [hnl]; simp
                · rcases Nat.lt_or_ge k i with h | h
                  · have hkl : listed.getD k false = true := by
                      cases hh : listed.getD k false with
                      | true => rfl
                      | false => exact absurd ⟨k, h, hh, mk, hmk, hck⟩ hC
                    rw [hkl]; simp [h]
                  · rw [hB' k mk (by omega) hmk hck]; simp; omega
              rw [this]; exact hl
        have hop : opA (MOp.load agg x) (envP (fun k => listed.getD k false) (disOf (tblGo (onsOf ops) []) (msOf P X ops)) rs 0 e0) (curP (fun k => listed.getD k false) (disOf (tblGo (onsOf ops) []) (msOf P X ops)) rs 0 H0) = some (r.v, curP (fun k => listed.getD k false) (disOf (tblGo (onsOf ops) []) (msOf P X ops)) rs 0 H0) := by
          simp only [opA, hx', hload, Option.map_some]
        obtain ⟨ρ', w', u, hrun, au, hrel, hext⟩ := op_sim hX cx hcm rfl hop
        have hend := fin r.v ρ' w' u _ rfl (hcurU hc2).symm au hrel hext hdst
        rcases hrun with hrun | ⟨hrun, rfl⟩
        · rw [hrun, Oper.upon_value]; exact hend
        · rw [hrun, Oper.upon_skip]; exact hend
      · -- an act
        have hc : clsOf m = 2 := by rcases clsOf_le m with h | h | h <;> omega
        obtain ⟨q1, q2⟩ := hcurA hc
        rcases hact with ⟨hcall, f, args, k, x1, hk, hcal, hrun⟩ | ⟨hcall, hop⟩
        · rw [← cg3] at hcal
          have h0 : X f = 0 := by
            cases k with
            | zero => simp [run] at hrun
            | succ k =>
              simp only [run] at hrun
              split at hrun
              · cases hrun
              · rename_i md hmd; exact (hD f md hmd).1
          obtain ⟨vs, hrun2, hvs⟩ := call_enter hX cx hcm hcall hcal h0
          rw [hrun2, Oper.upon_enter]
          rw [q1] at cx fin
          refine (hF k hk f args r.h x1 r.v r.h' hrun ρ w vs cx.rel cx.glob hvs).mono ?_
          rintro en w' ⟨ρ', u, rfl, au, hr', hx'⟩
          exact fin r.v ρ' w' u r.h' rfl q2.symm au hr' hx' hdst
        · rw [← cg2, ← q1] at hop
          obtain ⟨ρ', w', u, hrun, au, hrel, hext⟩ := op_sim hX cx hcm hcall hop
          have hend := fin r.v ρ' w' u r.h' rfl q2.symm au hrel hext hdst
          rcases hrun with hrun | ⟨hrun, rfl⟩
          · rw [hrun, Oper.upon_value]; exact hend
          · rw [hrun, Oper.upon_skip]; exact hend
  · exfalso
    rw [hco] at hrec
    rcases hrec with ⟨hw, _⟩ | ⟨_, _, h | ⟨_, ⟨agg, x, hop, _⟩, _⟩ | ⟨_, _, h⟩⟩
    · simp [mkDI, wantedA] at hw
    · simp [mkDI, pureA] at h
    · simp [mkDI] at hop
    · rcases h with ⟨h, _⟩ | ⟨_, h⟩
      · simp [mkDI, isCall] at h
      · simp [mkDI, opA, pureA] at h


def cnt (N : Nat) (listed : Array Bool) : Nat := (List.range N).countP fun k => listed.getD k false

theorem cnt_set {listed : Array Bool} {i : Nat} (hi : i < listed.size) (hnl : listed.getD i false = false) : ∀ N, i < N → cnt N (listed.setIfInBounds i true) = cnt N listed + 1 := by
  intro N
  induction N with
  | zero => intro h; omega
  | succ N ih =>
    intro h
    simp only [cnt, List.range_succ, List.countP_append, List.countP_cons, List.countP_nil] at ih ⊢
    by_cases hN : i = N
    · subst hN
      have h1 : (List.range i).countP (fun k => (listed.setIfInBounds i true).getD k false) = (List.range i).countP (fun k => listed.getD k false) := by
        apply List.countP_congr
        intro k hk
        have : k < i := by simpa using hk
        rw [getD_set _ _ _ hi, if_neg (by omega)]
      rw [h1, getD_set _ _ _ hi, if_pos rfl, hnl]
      simp
    · have := ih (by omega)
      have hg : (listed.setIfInBounds i true).getD N false = listed.getD N false := by rw [getD_set _ _ _ hi, if_neg (by omega)]
      rw [this, hg]
      omega

theorem cnt_full {listed : Array Bool} : ∀ N, cnt N listed = N → ∀ k, k < N → listed.getD k false = true := by
  intro N
  induction N with
  | zero => intro _ k hk; omega
  | succ N ih =>
    intro h k hk
    simp only [cnt, List.range_succ, List.countP_append, List.countP_cons, List.countP_nil] at ih h
    have hle : (List.range N).countP (fun k => listed.getD k false) ≤ N := by
      have := List.countP_le_length (p := fun k => listed.getD k false) (l := List.range N)
      simpa using this
    have hN : listed.getD N false = true := by
      cases hh : listed.getD N false with
      | true => rfl
      | false => rw [hh] at h; simp only [Bool.false_eq_true, if_false] at h; omega
    rw [hN] at h
    simp only [if_true] at h
    rcases Nat.lt_or_ge k N with h1 | h1
    · exact ih (by omega) k h1
    · have : k = N := by omega
      subst this; exact hN

theorem draw_any {ops : Array Oper} {N : Nat} {rs : List Rec} {e0 e' : List AV} {ρ0 : Rho} {H0 H' : Heap} (hX : ExtOk P X) (hD : FunOk P w0 X D) (hF : ∀ k, k < N → CallOk P w0 X D k)
    (hok : drawOk (onsOf ops) (tblGo (onsOf ops) []) (msOf P X ops) = true)
    (hch : Chain D N (disOf (tblGo (onsOf ops) []) (msOf P X ops)) rs e0 H0 e' H')
    (hck : checkLoads rs (disOf (tblGo (onsOf ops) []) (msOf P X ops)) rs = true) {Q : Exit → Act → World → Prop} (hQ : ∀ ρ' w' a', Cx P w0 ρ' H' w' e' a' → Ext ρ0 H0 ρ' H' → Q .normal a' w') :
    ∀ (fuel : Nat) (listed : Array Bool) (a : Act) (w : World), DInv P w0 (onsOf ops) (disOf (tblGo (onsOf ops) []) (msOf P X ops)) rs e0 ρ0 H0 listed a w → fuel + cnt ops.size listed = ops.size → wpAny P .any ops Q fuel listed a w := by
  obtain ⟨s1, s2, s3, s4⟩ := drawOk_spec hok
  have hlen : (disOf (tblGo (onsOf ops) []) (msOf P X ops)).length = ops.size := by simp [disOf, msOf]
  have honsget : ∀ (k : Nat) (o : Oper), ops[k]? = some o → (onsOf ops)[k]? = some ((o.after.toList.filter (Region.binds .any)).map (·.on)) := by
    intro k o ho
    simp [onsOf, List.getElem?_map, ho]
  have hrdy : ∀ (listed : Array Bool) (i : Nat), listed.size = ops.size → (i ∈ Region.ready .any ops listed ↔ i < ops.size ∧ listed.getD i false = false ∧ ∀ b, (onsOf ops)[i]? = some b → ∀ j ∈ b, listed.getD j false = true) := by
    intro listed i hsz
    unfold Region.ready
    rw [List.mem_filter]
    constructor
    · rintro ⟨h1, h2⟩
      have hi : i < ops.size := by simpa using h1
      obtain ⟨o, ho⟩ : ∃ o, ops[i]? = some o := ⟨ops[i], by simp [hi]⟩
      simp only [Bool.and_eq_true, Bool.not_eq_true', ho, Option.map_some, Option.getD_some] at h2
      refine ⟨hi, ?_, fun b hb j hj => ?_⟩
      · have := h2.1
        simp only [Array.getD_eq_getD_getElem?] at this ⊢
        have hl : listed[i]? = some listed[i] := by simp [hsz, hi]
        rw [hl] at this ⊢
        simpa using this
      · rw [honsget i o ho, Option.some.injEq] at hb
        subst hb
        rw [List.mem_map] at hj
        obtain ⟨ed, hed, rfl⟩ := hj
        obtain ⟨hed, hbi⟩ := List.mem_filter.1 hed
        have := h2.2
        rw [← Array.all_toList, List.all_eq_true] at this
        have := this ed hed
        rw [hbi] at this
        simpa using this
    · rintro ⟨hi, h1, h2⟩
      obtain ⟨o, ho⟩ : ∃ o, ops[i]? = some o := ⟨ops[i], by simp [hi]⟩
      refine ⟨by simpa using hi, ?_⟩
      simp only [Bool.and_eq_true, Bool.not_eq_true', ho, Option.map_some, Option.getD_some]
      constructor
      · simp only [Array.getD_eq_getD_getElem?] at h1 ⊢
        have hl : listed[i]? = some listed[i] := by simp [hsz, hi]
        rw [hl] at h1 ⊢
        simpa using h1
      · rw [← Array.all_toList, List.all_eq_true]
        intro ed hed
        cases hbi : Region.binds .any ed with
        | false => rfl
        | true =>
          simp only [Bool.not_true, Bool.false_or]
          exact h2 _ (honsget i o ho) ed.on (List.mem_map.2 ⟨ed, List.mem_filter.2 ⟨hed, hbi⟩, rfl⟩)
  have hall : ∀ (listed : Array Bool), listed.size = ops.size → Region.ready .any ops listed = [] → ∀ k, k < ops.size → listed.getD k false = true := by
    intro listed hsz hr k hk
    cases hh : listed.getD k false with
    | true => rfl
    | false =>
      obtain ⟨j, ⟨hj1, hj2⟩, hj3⟩ := least (p := fun k => k < ops.size ∧ listed.getD k false = false) ⟨k, hk, hh⟩
      have : j ∈ Region.ready .any ops listed := (hrdy listed j hsz).2 ⟨hj1, hj2, fun b hb m hm => by
        have hlt := s2 j b hb m hm
        cases hm2 : listed.getD m false with
        | true => rfl
        | false => exact absurd ⟨by omega, hm2⟩ (hj3 m hlt)⟩
      rw [hr] at this; cases this
  have hend : ∀ (listed : Array Bool) (a : Act) (w : World), DInv P w0 (onsOf ops) (disOf (tblGo (onsOf ops) []) (msOf P X ops)) rs e0 ρ0 H0 listed a w → (∀ k, k < ops.size → listed.getD k false = true) → Q .normal a w := by
    intro listed a w inv hl
    obtain ⟨ρ, cx, ext⟩ := inv.st
    obtain ⟨c1, c2, c3⟩ := chain_end _ rs 0 e0 H0 e' H' hch
    have h1 : curP (fun k => listed.getD k false) (disOf (tblGo (onsOf ops) []) (msOf P X ops)) rs 0 H0 = H' := by
      rw [c2]
      refine curP_agree _ _ _ rs 0 H0 fun j d hj _ => ?_
      rw [Nat.zero_add]
      exact hl j (by rw [← hlen]; exact (List.getElem?_eq_some_iff.1 hj).1)
    have h2 : envP (fun k => listed.getD k false) (disOf (tblGo (onsOf ops) []) (msOf P X ops)) rs 0 e0 = e' := by
      rw [c1]
      refine list_ext (by rw [envP_length, envP_length]) fun x => envP_agree _ _ x _ rs 0 e0 e0 (fun j d hj _ => ?_) rfl rfl
      rw [Nat.zero_add]
      exact hl j (by rw [← hlen]; exact (List.getElem?_eq_some_iff.1 hj).1)
    rw [h1, h2] at cx
    rw [h1] at ext
    exact hQ ρ w a cx ext
  intro fuel
  induction fuel with
  | zero =>
    intro listed a w inv hc
    have hsz : listed.size = ops.size := by rw [inv.size, hlen]
    have hf := cnt_full ops.size (by omega : cnt ops.size listed = ops.size)
    refine ⟨?_, hend listed a w inv hf⟩
    apply List.eq_nil_iff_forall_not_mem.2
    intro i hi
    obtain ⟨h1, h2, _⟩ := (hrdy listed i hsz).1 hi
    rw [hf i h1] at h2; cases h2
  | succ fuel ih =>
    intro listed a w inv hc
    have hsz : listed.size = ops.size := by rw [inv.size, hlen]
    refine ⟨fun hr => hend listed a w inv (hall listed hsz hr), fun i hi => ?_⟩
    obtain ⟨h1, h2, h3⟩ := (hrdy listed i hsz).1 hi
    refine wpOp_mono (fun a' w' inv' => ih _ a' w' inv' ?_) (draw_step hX hD hF hok hch hck inv h1 h2 h3)
    rw [cnt_set (by omega) h2 ops.size h1]; omega

theorem draw_region {ops : Array Oper} {id n N : Nat} {L : List DI} {x : Ex} {e' : List AV} {H' : Heap} (hn : n ≤ N) (hX : ExtOk P X) (hD : FunOk P w0 X D) (hF : ∀ k, k < N → CallOk P w0 X D k) (hmix : P.follows .mixedOrders = true)
    (hc : cDraw ops.toList (ops.toList.map (cOper P X ops.toList)) = .draw L) (hrun : run D n (.dops L L e H []) = some (x, e', H')) {Q : Exit → Act → World → Prop} (cx : Cx P w0 ρ H w e a)
    (hQ : ∀ ρ' w' a', Cx P w0 ρ' H' w' e' a' → Ext ρ H ρ' H' → Q (exOf x) a' w') : (Code.region id ops true).wp P Q a w := by
  unfold cDraw at hc
  dsimp only at hc
  split at hc
  · rename_i hok
    cases hc
    obtain ⟨rs, hch, rfl, hck⟩ := dops_chain n N hn _ _ e H [] x e' H' hrun
    refine wp_region_any hmix ?_
    refine draw_any (ρ0 := ρ) (H0 := H) (e0 := e) (rs := rs) hX hD hF hok hch (by rw [List.reverse_nil, List.nil_append] at hck; exact hck) hQ ops.size _ a _ ?_ ?_
    · refine ⟨by simp [disOf, msOf], ?_, ρ, ?_, ?_⟩
      · intro k b hk
        simp [Array.getD_eq_getD_getElem?, Array.getElem?_replicate] at hk
        split at hk <;> simp at hk
      · have h0 : ∀ j, (Array.replicate ops.size false).getD j false = false := by
          intro j
          simp only [Array.getD_eq_getD_getElem?, Array.getElem?_replicate]
          split <;> rfl
        rw [curP_none _ _ _ _ _ fun j _ => h0 _, envP_none _ _ _ _ _ fun j _ => h0 _]
        exact ⟨cx.rel.of_eq rfl rfl rfl rfl, cx.er, cx.glob, cx.nodefer⟩
      · have h0 : ∀ j, (Array.replicate ops.size false).getD j false = false := by
          intro j
          simp only [Array.getD_eq_getD_getElem?, Array.getElem?_replicate]
          split <;> rfl
        rw [curP_none _ _ _ _ _ fun j _ => h0 _]
        exact Ext.refl _ _
    · have : cnt ops.size (Array.replicate ops.size false) = 0 := by
        unfold cnt
        rw [List.countP_eq_zero]
        intro k _
        simp only [Array.getD_eq_getD_getElem?, Array.getElem?_replicate]
        split <;> simp
      omega
  · split at hc <;> cases hc

end
end Go.Jx
