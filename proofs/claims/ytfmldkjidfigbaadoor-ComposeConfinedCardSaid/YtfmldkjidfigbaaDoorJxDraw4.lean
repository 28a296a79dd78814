/-
  Regions that draw their order, in which a new cell floats: the plain machine makes the cells ahead of the region.
-/
import Derived.Test.YtfmldkjidfigbaaDoorJxDraw3
namespace Go.Jx
open Go Go.RowKit
set_option linter.unusedSimpArgs false
set_option linter.unusedVariables false

def isAlloc : MOp → Bool
  | .alloc _ _ => true
  | _ => false

section
variable {P : Program} {w0 w : World} {ρ : Rho} {H : Heap} {e : List AV} {a : Act} {X : Exts} {D : Nat → Option MFunc}

theorem cOp_isAlloc {op : Op} {m : MOp} (hc : cOp P X op = some m) (hm : isAlloc m = true) : ∃ t, op = .alloc t ∧ (zero? P t).map (fun z => MOp.alloc t z) = some m := by
  cases op <;> simp only [cOp] at hc
  case alloc t => exact ⟨t, rfl, hc⟩
  all_goals exfalso
  case call c =>
    unfold cCall at hc
    repeat' (split at hc)
    all_goals first
      | (cases hc; simp [isAlloc] at hm; done)
      | (simp only [Option.map_eq_some_iff] at hc; obtain ⟨r, hr, rfl⟩ := hc; simp [isAlloc] at hm; done)
      | (cases hc; done)
  case box => simp only [Option.map_eq_some_iff] at hc; obtain ⟨r, hr, rfl⟩ := hc; simp [isAlloc] at hm
  case buildSlice =>
    split at hc
    · split at hc
      · split at hc
        · simp only [Option.map_eq_some_iff] at hc; obtain ⟨r, hr, rfl⟩ := hc; simp [isAlloc] at hm
        · cases hc
      · cases hc
    · cases hc
  case load => split at hc <;> cases hc; simp [isAlloc] at hm
  case store => split at hc <;> cases hc; simp [isAlloc] at hm
  case convert => split at hc <;> cases hc; simp [isAlloc] at hm
  case makeSlice =>
    split at hc
    · split at hc
      · split at hc <;> cases hc; simp [isAlloc] at hm
      · cases hc
    · cases hc
  case slice t x lo hi mx =>
    cases mx with
    | some _ => simp at hc
    | none =>
      simp only [Option.isSome_none, Bool.false_eq_true, if_false] at hc
      split at hc
      · cases hc; simp [isAlloc] at hm
      · simp only [Option.map_eq_some_iff] at hc; obtain ⟨r, hr, rfl⟩ := hc; simp [isAlloc] at hm
      · simp only [Option.map_eq_some_iff] at hc; obtain ⟨r, hr, rfl⟩ := hc; simp [isAlloc] at hm
      · cases hc
  case range => split at hc <;> cases hc; simp [isAlloc] at hm
  case next x b =>
    cases b with
    | false => simp at hc
    | true => simp only [if_true, Option.map_eq_some_iff] at hc; obtain ⟨r, hr, rfl⟩ := hc; simp [isAlloc] at hm
  case move => simp only [Option.map_eq_some_iff] at hc; obtain ⟨r, hr, rfl⟩ := hc; simp [isAlloc] at hm
  case assign => simp only [Option.map_eq_some_iff] at hc; obtain ⟨r, hr, rfl⟩ := hc; simp [isAlloc] at hm
  case pick => split at hc <;> cases hc; simp [isAlloc] at hm
  case build =>
    split at hc
    · simp only [Option.map_eq_some_iff] at hc; obtain ⟨r, hr, hc⟩ := hc; split at hc <;> subst hc <;> simp [isAlloc] at hm
    · split at hc
      · simp only [Option.map_eq_some_iff] at hc; obtain ⟨r, hr, rfl⟩ := hc; simp [isAlloc] at hm
      · cases hc
    · cases hc
  case nilCheck => simp only [Option.map_eq_some_iff] at hc; obtain ⟨r, hr, rfl⟩ := hc; simp [isAlloc] at hm
  case binOp => split at hc <;> cases hc; simp [isAlloc] at hm
  case unOp => simp only [Option.map_eq_some_iff] at hc; obtain ⟨r, hr, rfl⟩ := hc; simp [isAlloc] at hm
  case makeFunc fn first caps =>
    split at hc
    · split at hc
      · simp only [Option.map_eq_some_iff] at hc; obtain ⟨r, hr, rfl⟩ := hc; simp [isAlloc] at hm
      · cases hc
    · cases hc
  case fieldAddr =>
    split at hc
    · split at hc
      · split at hc
        · split at hc <;> cases hc; simp [isAlloc] at hm
        · cases hc
      · cases hc
    · cases hc
  case field =>
    split at hc
    · split at hc
      · simp only [Option.map_eq_some_iff] at hc; obtain ⟨r, hr, rfl⟩ := hc; simp [isAlloc] at hm
      · cases hc
    · cases hc
  case indexAddr =>
    split at hc
    · simp only [Option.map_eq_some_iff] at hc; obtain ⟨r, hr, rfl⟩ := hc; simp [isAlloc] at hm
    · simp only [Option.map_eq_some_iff] at hc; obtain ⟨r, hr, rfl⟩ := hc; simp [isAlloc] at hm
    · cases hc
  case index =>
    split at hc
    · cases hc; simp [isAlloc] at hm
    · split at hc <;> cases hc; simp [isAlloc] at hm
    · cases hc
  case extract => simp only [Option.map_eq_some_iff] at hc; obtain ⟨r, hr, rfl⟩ := hc; simp [isAlloc] at hm
  all_goals cases hc


/-- A new cell comes to light: the plain machine has it already. -/
theorem Rel.reveal (r : Rel P w0 ρ H w) {g : Nat} {t : TypeId} {z : List SV} (hg : ρ g = none) (hget : H.get g = some (.cells t .own z)) (c : Array Value) (hl : ∀ ρ' : Rho, LR (SVR ρ') z c.toList) :
    Rel P w0 (ρ.add g ⟨w.heap.size, 0, 0⟩) H { w with heap := w.heap.push (.cells c t) } := by
  have hsub : ∀ id t, ρ id = some t → (ρ.add g ⟨w.heap.size, 0, 0⟩) id = some t := by
    intro id t e
    simp only [Rho.add]; rw [if_neg (fun h => by rw [h, hg] at e; cases e)]; exact e
  have hold : ∀ k, k < w.heap.size → (w.heap.push (Obj.cells c t))[k]? = w.heap[k]? := by
    intro k hk; rw [Array.getElem?_push, if_neg (by omega)]
  obtain ⟨n1, _⟩ := new_own r t z c (hl ρ)
  have hlen := (hl ρ).length
  refine ⟨n1.below, r.wf, ?_, ?_, ?_⟩
  · intro id t' e
    simp only [Rho.add] at e
    split at e
    · subst_vars; exact Heap.get_lt hget
    · exact r.dom _ _ e
  · intro id t' o' e he
    simp only [Rho.add] at e
    by_cases hid : id = g
    · subst hid
      simp only [if_true, Option.some.injEq] at e
      subst e
      rw [hget, Option.some.injEq] at he
      subst he
      refine ⟨c, t, (0, 0), by simp, fun i s hs => ?_, fun _ => ⟨rfl, rfl, r.below.size, fun i _ h => by simp at h, by simp at hlen; simp; omega⟩, fun _ => rfl⟩
      obtain ⟨v, hv, rv⟩ := (hl (ρ.add id ⟨w.heap.size, 0, 0⟩)).get hs
      exact ⟨v, by simpa using hv, rv⟩
    · rw [if_neg hid] at e
      have h1 := r.objs id t' o' e he
      cases o' with
      | dead => trivial
      | cells ty k cs => exact OR.mono hsub (OR.block (hold _ (h1.lt trivial)) h1)
      | iter s p => exact OR.mono hsub (OR.block (hold _ (h1.lt trivial)) h1)
  · intro id id' t1 t' o1 o2 e e' hne h1 h2 hown hlive
    simp only [Rho.add] at e e'
    by_cases hid : id = g
    · by_cases hid' : id' = g
      · omega
      · rw [if_pos hid] at e; rw [if_neg hid'] at e'
        cases e
        have := (r.objs _ _ _ e' h2).lt hlive
        simp; omega
    · rw [if_neg hid] at e
      have hl1 : o1.live := by cases o1 <;> simp_all [AO.owned, AO.live]
      have l1 := (r.objs _ _ _ e h1).lt hl1
      by_cases hid' : id' = g
      · rw [if_pos hid'] at e'
        cases e'
        simp; omega
      · rw [if_neg hid'] at e'
        exact r.sep _ _ _ _ _ _ e e' hne h1 h2 hown hlive

theorem isFl_spec {m : MI} (h : isFl m = true) : ∃ d t z, m = ⟨some d, .alloc t z, none⟩ := by
  obtain ⟨dst, op, guard⟩ := m
  unfold isFl at h
  simp only at h
  split at h
  · exact ⟨_, _, _, rfl⟩
  · cases h
theorem toF_not {m : MI} (h : isFl m = false) : toF m = m := by
  obtain ⟨dst, op, guard⟩ := m
  unfold isFl at h; unfold toF
  simp only at h ⊢
  split at h
  · cases h
  · rfl

/-- The cell that operation j makes. -/
def gid (n : Nat) (ms : List MI) (j : Nat) : Nat := n + (ms.take j).countP isFl

theorem gid_lt (n : Nat) : ∀ (ms : List MI) (i j : Nat) (mi : MI), ms[i]? = some mi → isFl mi = true → i < j → gid n ms i < gid n ms j := by
  intro ms i j mi hi hf hij
  unfold gid
  have h1 : (ms.take (i + 1)).countP isFl = (ms.take i).countP isFl + 1 := by
    rw [List.take_add_one, hi]
    simp [List.countP_append, hf]
  have h2 : (ms.take (i + 1)).countP isFl ≤ (ms.take j).countP isFl := by
    have : ms.take (i + 1) = (ms.take j).take (i + 1) := by rw [List.take_take, Nat.min_eq_left (by omega)]
    rw [this]
    exact (List.take_sublist _ _).countP_le
  omega

/-- What the cells that are made ahead leave. -/
theorem alloc_run : ∀ (n : Nat) (ms : List MI) (e : List AV) (H : Heap) (x : Ex) (e1 : List AV) (H1 : Heap), H.l.length = H.n → run D n (.ops (ms.filter isFl) e H) = some (x, e1, H1) →
    x = .normal ∧ e1.length = e.length ∧ H1.l.length = H1.n ∧ H.n ≤ H1.n ∧ (∀ id, id < H.n → H1.get id = H.get id) ∧
    (∀ x, (∀ (j : Nat) (m : MI), ms[j]? = some m → isFl m = true → m.dst ≠ some x) → e1.getD x undefA = e.getD x undefA) ∧
    (∀ (j d : Nat) (t : TypeId) (z : List SV), ms[j]? = some ⟨some d, .alloc t z, none⟩ → H1.get (gid H.n ms j) = some (.cells t .own z) ∧
      ((∀ (k : Nat) (m : MI), k ≠ j → ms[k]? = some m → isFl m = true → m.dst ≠ some d) → d < e.length → e1.getD d undefA = .sc (.ptr (gid H.n ms j) 0))) := by
  intro n ms
  induction ms generalizing n with
  | nil =>
    intro e H x e1 H1 hw h
    cases n with
    | zero => simp [run] at h
    | succ n =>
      simp only [List.filter_nil, run, Option.some.injEq, Prod.mk.injEq] at h
      obtain ⟨rfl, rfl, rfl⟩ := h
      exact ⟨rfl, rfl, hw, Nat.le_refl _, fun _ _ => rfl, fun _ _ => rfl, fun j d t z h => by simp at h⟩
  | cons m ms ih =>
    intro e H x e1 H1 hw h
    cases hm : isFl m with
    | false =>
      rw [List.filter_cons_of_neg (by simp [hm])] at h
      obtain ⟨a1, a2, a3, a4, a5, a6, a7⟩ := ih n e H x e1 H1 hw h
      refine ⟨a1, a2, a3, a4, a5, fun x hx => a6 x fun j m' hj hf => hx (j + 1) m' (by simpa using hj) hf, fun j d t z hj => ?_⟩
      cases j with
      | zero =>
        simp only [List.getElem?_cons_zero, Option.some.injEq] at hj
        subst hj
        simp [isFl] at hm
      | succ j =>
        simp only [List.getElem?_cons_succ] at hj
        have hg : gid H.n (m :: ms) (j + 1) = gid H.n ms j := by simp [gid, hm]
        rw [hg]
        obtain ⟨b1, b2⟩ := a7 j d t z hj
        exact ⟨b1, fun hd hl => b2 (fun k m' hk hm' hf => hd (k + 1) m' (by omega) (by simpa using hm') hf) hl⟩
    | true =>
      rw [List.filter_cons_of_pos hm] at h
      obtain ⟨d0, t0, z0, rfl⟩ := isFl_spec hm
      cases n with
      | zero => simp [run] at h
      | succ n =>
        simp only [run, wantedA, isCall, opA, put] at h
        try simp only [Bool.true_eq_false, if_false, Bool.false_eq_true] at h
        obtain ⟨a1, a2, a3, a4, a5, a6, a7⟩ := ih n _ _ x e1 H1 (Heap.push_wf hw _) h
        have hg0 : gid H.n (⟨some d0, .alloc t0 z0, none⟩ :: ms) 0 = H.n := by simp [gid]
        have hgs : ∀ j, gid H.n (⟨some d0, .alloc t0 z0, none⟩ :: ms) (j + 1) = gid (H.push (.cells t0 .own z0)).n ms j := by
          intro j; simp [gid, hm, Heap.push_n]; omega
        refine ⟨a1, by rw [a2]; simp, a3, by rw [Heap.push_n] at a4; omega, fun id hid => ?_, fun x hx => ?_, fun j d t z hj => ?_⟩
        · rw [a5 id (by rw [Heap.push_n]; omega), Heap.get_push hw, if_neg (by omega)]
        · rw [a6 x fun j m' hj hf => hx (j + 1) m' (by simpa using hj) hf]
          have := hx 0 _ rfl hm
          exact put_get_ne (e := e) (d := some d0) this
        · cases j with
          | zero =>
            simp only [List.getElem?_cons_zero, Option.some.injEq, MI.mk.injEq, MOp.alloc.injEq, and_true] at hj
            obtain ⟨rfl, rfl, rfl⟩ := hj
            rw [hg0]
            refine ⟨by rw [a5 _ (by rw [Heap.push_n]; omega), Heap.get_push hw, if_pos rfl], fun hd hl => ?_⟩
            rw [a6 d0 fun k m' hk hf => hd (k + 1) m' (by omega) (by simpa using hk) hf]
            simp [List.getD, hl]
          | succ j =>
            simp only [List.getElem?_cons_succ] at hj
            rw [hgs]
            obtain ⟨b1, b2⟩ := a7 j d t z hj
            exact ⟨b1, fun hd hl => b2 (fun k m' hk hm' hf => hd (k + 1) m' (by omega) (by simpa using hm') hf) (by simpa using hl)⟩

def msFl (P : Program) (X : Exts) (ops : Array Oper) : List MI := (msOf P X ops).map toF

/-- What holds when these have been carried out. -/
structure FInv (P : Program) (w0 : World) (ms : List MI) (ons : List (List Nat)) (L : List DI) (rs : List Rec) (e0 : List AV) (ρ0 : Rho) (H0 HB : Heap) (listed : Array Bool) (a : Act) (w : World) : Prop where
  size : listed.size = L.length
  closed : ∀ k b, listed.getD k false = true → ons[k]? = some b → ∀ j ∈ b, listed.getD j false = true
  st : ∃ ρ, Cx P w0 ρ (curP (fun k => listed.getD k false) L rs 0 HB) w (envP (fun k => listed.getD k false) L rs 0 e0) a ∧ Ext ρ0 H0 ρ (curP (fun k => listed.getD k false) L rs 0 HB) ∧
    ∀ (j d : Nat) (t : TypeId) (z : List SV), ms[j]? = some ⟨some d, .alloc t z, none⟩ → listed.getD j false = false → ρ (gid H0.n ms j) = none ∧ (curP (fun k => listed.getD k false) L rs 0 HB).get (gid H0.n ms j) = some (.cells t .own z)

/-- How the slots and the memory ahead of the region stand to those behind the new cells. -/
structure Made (ms : List MI) (e0 : List AV) (H0 : Heap) (eB : List AV) (HB : Heap) : Prop where
  len : eB.length = e0.length
  same : ∀ x, (∀ (j : Nat) (m : MI), ms[j]? = some m → isFl m = true → m.dst ≠ some x) → eB.getD x undefA = e0.getD x undefA
  ptr : ∀ (j d : Nat) (t : TypeId) (z : List SV), ms[j]? = some ⟨some d, .alloc t z, none⟩ → d < e0.length → eB.getD d undefA = .sc (.ptr (gid H0.n ms j) 0)
  late : ∀ (i j d : Nat) (mi : MI) (t : TypeId) (z : List SV), (ms.map toF)[i]? = some mi → ms[j]? = some ⟨some d, .alloc t z, none⟩ → i < j → d ∉ miReads mi

theorem fl_get {ops : Array Oper} {j d : Nat} {t : TypeId} {z : List SV} (h : (msOf P X ops)[j]? = some ⟨some d, .alloc t z, none⟩) : (msFl P X ops)[j]? = some ⟨some d, .move (.t d), none⟩ := by
  simp [msFl, List.getElem?_map, h, toF]

/-- What is read of a slot that one operation alone sets, when it was carried out. -/
theorem envP_fix {p q : Nat → Bool} {L : List DI} {rs : List Rec} {e e' : List AV} {k x : Nat} {d : DI} {r : Rec} (hk : L[k]? = some d) (hr : rs[k]? = some r) (hd : d.mi.dst = some x)
    (hone : ∀ (j : Nat) (d' : DI), L[j]? = some d' → d'.mi.dst = some x → j = k) (hp : p k = true) (hq : q k = true) (hl : e.length = e'.length) :
    (envP p L rs 0 e).getD x undefA = (envP q L rs 0 e').getD x undefA := by
  have key : ∀ (p : Nat → Bool) (e : List AV), p k = true → (envP p L rs 0 e).getD x undefA = (put e (some x) r.v).getD x undefA := by
    intro p e hp
    rw [envP_agree p (fun j => j == 0 + k) x L rs 0 e e (fun j d' hj hd' => by have := hone j d' hj hd'; subst this; simpa using hp) rfl rfl, envP_single L rs 0 k e d r hk hr, hd]
  rw [key p e hp, key q e' hq]
  exact put_get_eq hl

theorem drawF_step {ops : Array Oper} {N : Nat} {rs : List Rec} {e0 eB e' : List AV} {ρ0 : Rho} {H0 HB H' : Heap} (hmade : Made (msOf P X ops) e0 H0 eB HB) (hX : ExtOk P X) (hD : FunOk P w0 X D) (hF : ∀ k, k < N → CallOk P w0 X D k)
    (hok : drawOk (onsOf ops) (tblGo (onsOf ops) []) (msFl P X ops) = true) (hch : Chain D N (disOf (tblGo (onsOf ops) []) (msFl P X ops)) rs eB HB e' H')
    (hck : checkLoads rs (disOf (tblGo (onsOf ops) []) (msFl P X ops)) rs = true) {Q : Exit → Act → World → Prop} {listed : Array Bool} (inv : FInv P w0 (msOf P X ops) (onsOf ops) (disOf (tblGo (onsOf ops) []) (msFl P X ops)) rs e0 ρ0 H0 HB listed a w)
    {i : Nat} (hi : i < ops.size) (hnl : listed.getD i false = false) (hready : ∀ b, (onsOf ops)[i]? = some b → ∀ j ∈ b, listed.getD j false = true) :
    wpOp P ops Q i (fun a' w' => FInv P w0 (msOf P X ops) (onsOf ops) (disOf (tblGo (onsOf ops) []) (msFl P X ops)) rs e0 ρ0 H0 HB (listed.setIfInBounds i true) a' w') a w := by
  obtain ⟨s1, s2, s3, s4⟩ := drawOk_spec hok
  obtain ⟨o, ho⟩ : ∃ o, ops[i]? = some o := ⟨ops[i], by simp [hi]⟩
  have hm0 : (msOf P X ops)[i]? = some (cOper P X ops.toList o) := by simp [msOf, List.getElem?_map, ho]
  obtain ⟨mi, hmi⟩ : ∃ mi, mi = toF (cOper P X ops.toList o) := ⟨_, rfl⟩
  have hm : (msFl P X ops)[i]? = some mi := by rw [hmi]; simp [msFl, List.getElem?_map, hm0]
  have hd := dis_get (tb := tblGo (onsOf ops) []) hm
  obtain ⟨r, hr, hrec, hrh, hrh'⟩ := chain_get _ rs 0 i eB HB e' H' _ hch hd
  simp only [Nat.zero_add] at hrec hrh hrh'
  have hlsz : i < listed.size := by rw [inv.size]; exact (List.getElem?_eq_some_iff.1 hd).1
  have hL : ∀ k, listed.getD k false = true → k < (onsOf ops).length := by
    intro k hk
    have : k < listed.size := by
      rcases Nat.lt_or_ge k listed.size with h | h
      · exact h
      · have hz : listed[k]? = none := Array.getElem?_eq_none h
        simp [Array.getD_eq_getD_getElem?, hz] at hk
    rw [inv.size] at this
    rw [s1]
    have hlen : (disOf (tblGo (onsOf ops) []) (msFl P X ops)).length = (msFl P X ops).length := by simp [disOf]
    omega
  -- who must stand ahead
  have hahead : ∀ j, ahead (tblGo (onsOf ops) []) i j = true → listed.getD j false = true := fun j h => ahead_closed (onsOf ops) _ inv.closed hL i j hready h
  have hbehind : ∀ j, ahead (tblGo (onsOf ops) []) j i = true → listed.getD j false = false := by
    intro j h
    cases hj : listed.getD j false with
    | false => rfl
    | true =>
      have := ahead_closed (onsOf ops) _ inv.closed hL j i (fun b hb => inv.closed j b hj hb) h
      rw [hnl] at this; cases this
  -- the slots that are read
  have hone : ∀ (j k x : Nat) (mj mk : MI), (msFl P X ops)[j]? = some mj → (msFl P X ops)[k]? = some mk → mj.dst = some x → mk.dst = some x → j = k := by
    intro j k x mj mk hj hk h1 h2
    by_cases hjk : j = k
    · exact hjk
    · exact absurd h1 (s4 j k mj mk hjk hj hk x h2).1
  have hrecs : ∀ j, j < (disOf (tblGo (onsOf ops) []) (msFl P X ops)).length → ∃ q, rs[j]? = some q := by
    intro j hj
    obtain ⟨_, _, c3⟩ := chain_end _ rs 0 eB HB e' H' hch
    exact ⟨rs[j]'(by omega), by simp [c3, hj]⟩
  have hread : isFl (cOper P X ops.toList o) = false → ∀ x ∈ miReads mi, (envP (fun k => listed.getD k false) (disOf (tblGo (onsOf ops) []) (msFl P X ops)) rs 0 e0).getD x undefA = (envP (fun j => decide (j < i)) (disOf (tblGo (onsOf ops) []) (msFl P X ops)) rs 0 eB).getD x undefA := by
    intro hnf x hx
    by_cases hfx : ∃ (j : Nat) (m : MI), (msOf P X ops)[j]? = some m ∧ isFl m = true ∧ m.dst = some x
    · obtain ⟨j, m, hj, hf, hdx⟩ := hfx
      obtain ⟨d, t, z, rfl⟩ := isFl_spec hf
      simp only [Option.some.injEq] at hdx
      subst hdx
      have hji : j ≠ i := by
        rintro rfl
        rw [hm0, Option.some.injEq] at hj
        rw [hj, hf] at hnf; cases hnf
      have hlt : ¬ i < j := fun h => hmade.late i j d mi t z hm hj h hx
      have hj2 := fl_get hj
      have := (s4 i j _ _ (Ne.symm hji) hm hj2 d rfl).2 hx
      rw [if_pos (by omega)] at this
      have hdj := dis_get (tb := tblGo (onsOf ops) []) hj2
      obtain ⟨q, hq⟩ := hrecs j (List.getElem?_eq_some_iff.1 hdj).1
      refine envP_fix hdj hq rfl (fun k d' hk hd' => ?_) (hahead j this) (by simp; omega) hmade.len.symm
      obtain ⟨mk, hmk, rfl⟩ := dis_get' hk
      exact hone k j d mk _ hmk hj2 hd' rfl
    · have hb := hmade.same x (fun (j : Nat) (m : MI) hj hf hd => hfx ⟨j, m, hj, hf, hd⟩)
      refine envP_agree _ _ x _ rs 0 e0 eB (fun j d hj hdst => ?_) hmade.len.symm hb.symm
      obtain ⟨mj, hmj, rfl⟩ := dis_get' hj
      simp only [Nat.zero_add]
      by_cases hji : j = i
      · subst hji; rw [hnl]; simp
      · have := (s4 i j _ mj (Ne.symm hji) hm hmj x hdst).2 hx
        split at this
        · rename_i hlt; rw [hahead j this]; simp [hlt]
        · rename_i hlt; rw [hbehind j this]; simp; omega
  -- the slots behind it
  have hput : envP (fun k => (listed.setIfInBounds i true).getD k false) (disOf (tblGo (onsOf ops) []) (msFl P X ops)) rs 0 e0 = Jx.put (envP (fun k => listed.getD k false) (disOf (tblGo (onsOf ops) []) (msFl P X ops)) rs 0 e0) mi.dst r.v := by
    apply list_ext
    · rw [envP_length, put_length, envP_length]
    · intro x
      by_cases hdx : mi.dst = some x
      · have h1 : (envP (fun k => (listed.setIfInBounds i true).getD k false) (disOf (tblGo (onsOf ops) []) (msFl P X ops)) rs 0 e0).getD x undefA = (envP (fun k => k == 0 + i) (disOf (tblGo (onsOf ops) []) (msFl P X ops)) rs 0 e0).getD x undefA := by
          refine envP_agree _ _ x _ rs 0 e0 e0 (fun j d hj hdst => ?_) rfl rfl
          obtain ⟨mj, hmj, rfl⟩ := dis_get' hj
          simp only [Nat.zero_add]
          by_cases hji : j = i
          · subst hji; rw [getD_set _ _ _ hlsz]; simp
          · exact absurd hdx (s4 i j _ mj (Ne.symm hji) hm hmj x hdst).1
        rw [h1, envP_single _ rs 0 i e0 _ r hd hr]
        show (Jx.put e0 mi.dst r.v).getD x undefA = _
        rw [hdx]
        exact put_get_eq (by rw [envP_length])
      · rw [put_get_ne hdx]
        refine envP_agree _ _ x _ rs 0 e0 e0 (fun j d hj hdst => ?_) rfl rfl
        obtain ⟨mj, hmj, rfl⟩ := dis_get' hj
        simp only [Nat.zero_add]
        have hji : j ≠ i := by
          rintro rfl
          rw [hm] at hmj; cases hmj
          exact hdx hdst
        rw [getD_set _ _ _ hlsz, if_neg hji]
  -- memory
  have hcurU : clsOf mi.op ≠ 2 → curP (fun k => (listed.setIfInBounds i true).getD k false) (disOf (tblGo (onsOf ops) []) (msFl P X ops)) rs 0 HB = curP (fun k => listed.getD k false) (disOf (tblGo (onsOf ops) []) (msFl P X ops)) rs 0 HB := by
    intro hc
    refine curP_agree _ _ _ rs 0 HB fun j d hj ha => ?_
    obtain ⟨mj, hmj, rfl⟩ := dis_get' hj
    simp only [Nat.zero_add]
    have hji : j ≠ i := by
      rintro rfl
      rw [hm] at hmj; cases hmj
      exact hc (isAct_iff.1 ha)
    rw [getD_set _ _ _ hlsz, if_neg hji]
  have hcurA : clsOf mi.op = 2 → curP (fun k => listed.getD k false) (disOf (tblGo (onsOf ops) []) (msFl P X ops)) rs 0 HB = r.h ∧ curP (fun k => (listed.setIfInBounds i true).getD k false) (disOf (tblGo (onsOf ops) []) (msFl P X ops)) rs 0 HB = r.h' := by
    intro hc
    have hside : ∀ j mj, (msFl P X ops)[j]? = some mj → clsOf mj.op = 2 → j ≠ i → listed.getD j false = decide (j < i) := by
      intro j mj hmj hcj hji
      rcases Nat.lt_or_ge j i with h | h
      · rw [hahead j (s3 j i mj _ hmj hm hcj hc h)]; simp [h]
      · rw [hbehind j (s3 i j _ mj hm hmj hc hcj (by omega))]; simp; omega
    constructor
    · rw [hrh]
      refine curP_agree _ _ _ rs 0 HB fun j d hj ha => ?_
      obtain ⟨mj, hmj, rfl⟩ := dis_get' hj
      simp only [Nat.zero_add]
      by_cases hji : j = i
      · subst hji; rw [hnl]; simp
      · exact hside j mj hmj (isAct_iff.1 ha) hji
    · rw [hrh']
      refine curP_agree _ _ _ rs 0 HB fun j d hj ha => ?_
      obtain ⟨mj, hmj, rfl⟩ := dis_get' hj
      simp only [Nat.zero_add]
      rw [getD_set _ _ _ hlsz]
      by_cases hji : j = i
      · subst hji; simp
      · rw [if_neg hji, hside j mj hmj (isAct_iff.1 ha) hji]
        congr 1
        simp only [eq_iff_iff]; omega
  obtain ⟨ρ, cx, ext, hfl⟩ := inv.st
  have hclosed : ∀ k b, (listed.setIfInBounds i true).getD k false = true → (onsOf ops)[k]? = some b → ∀ j ∈ b, (listed.setIfInBounds i true).getD j false = true := by
    intro k b hk hb j hj
    rw [getD_set _ _ _ hlsz] at hk ⊢
    by_cases hji : j = i
    · rw [if_pos hji]
    · rw [if_neg hji]
      by_cases hki : k = i
      · subst hki; exact hready b hb j hj
      · rw [if_neg hki] at hk; exact inv.closed k b hk hb j hj
  -- the end of a step
  have fin : ∀ (v : AV) (ρ' : Rho) (w' : World) (u : Value) (H1 : Heap), v = r.v → H1 = curP (fun k => (listed.setIfInBounds i true).getD k false) (disOf (tblGo (onsOf ops) []) (msFl P X ops)) rs 0 HB →
      AVR ρ' v u → Rel P w0 ρ' H1 w' → Ext ρ (curP (fun k => listed.getD k false) (disOf (tblGo (onsOf ops) []) (msFl P X ops)) rs 0 HB) ρ' H1 → mi.dst = o.dst →
      FInv P w0 (msOf P X ops) (onsOf ops) (disOf (tblGo (onsOf ops) []) (msFl P X ops)) rs e0 ρ0 H0 HB (listed.setIfInBounds i true) (a.put o.dst u) w' := by
    intro v ρ' w' u H1 hv hH hav hrel hext hdst
    subst hv
    refine ⟨by simp [inv.size], hclosed, ρ', ?_, ?_, ?_⟩
    · rw [hput, ← hH, hdst]
      exact cx.put hrel hext hav o.dst
    · rw [← hH]; exact ext.trans hext
    · intro j d t z hj hnj
      have hnj' : listed.getD j false = false := by
        rw [getD_set _ _ _ hlsz] at hnj
        split at hnj
        · cases hnj
        · exact hnj
      obtain ⟨f1, f2⟩ := hfl j d t z hj hnj'
      have hlt := Heap.get_lt f2
      refine ⟨?_, by rw [← hH, hext.kept _ hlt f1, f2]⟩
      cases hh : ρ' (gid H0.n (msOf P X ops) j) with
      | none => rfl
      | some t' =>
        rcases hext.new _ _ hh with h | h
        · rw [f1] at h; cases h
        · omega
  cases hfm : isFl (cOper P X ops.toList o) with
  | true =>
    obtain ⟨d, t, z, hco⟩ := isFl_spec hfm
    have hmi' : mi = ⟨some d, .move (.t d), none⟩ := by rw [hmi, hco]; rfl
    rcases cOper_cases P X ops.toList o with ⟨m, g, hcm, hcg, hco2⟩ | hco2
    · have hm2 : o.dst = some d ∧ m = .alloc t z ∧ g = none := by rw [hco2] at hco; simpa using hco
      obtain ⟨hod, rfl, rfl⟩ := hm2
      obtain ⟨t', hop, hz'⟩ := cOp_isAlloc hcm rfl
      simp only [Option.map_eq_some_iff, MOp.alloc.injEq] at hz'
      obtain ⟨z', hz, rfl, rfl⟩ := hz'
      obtain ⟨f1, f2⟩ := hfl i d t' z' (by rw [hm0, hco]) hnl
      obtain ⟨v, hv, hvr⟩ := run_zero (w := w) hz
      have hrel := cx.rel.reveal f1 f2 v.cells hvr
      have hsub : ∀ id tg, ρ id = some tg → (ρ.add (gid H0.n (msOf P X ops) i) ⟨w.heap.size, 0, 0⟩) id = some tg := by
        intro id tg e
        simp only [Rho.add]; rw [if_neg (fun h => by rw [h, f1] at e; cases e)]; exact e
      have hrun : (execOp a.eval o).run P w = .ok (.value (.pointer (some ⟨w.heap.size, 0, none⟩))) { w with heap := w.heap.push (.cells v.cells t') } := by
        have : (Instr.alloc t' true (.tuple #[])).run P w = .ok (.pointer (some ⟨w.heap.size, 0, none⟩)) { w with heap := w.heap.push (.cells v.cells t') } := by
          unfold Instr.alloc
          rw [bind_ok hv]
          simp only [newVar, newRow, Sem.run_bind, run_newObj, Result.andThen_ok, Sem.run_pure]
        unfold execOp
        rw [hop]
        exact (bind_ok this).trans rfl
      unfold wpOp
      simp only [ho]
      rw [wanted_eq cx hcg]
      simp only [wantedA, if_true]
      left
      unfold Oper.wp
      rw [hrun, Oper.upon_value, hod]
      have hcU := hcurU (by rw [hmi']; show (0 : Nat) ≠ 2; decide)
      have hpv : Jx.put (envP (fun k => listed.getD k false) (disOf (tblGo (onsOf ops) []) (msFl P X ops)) rs 0 e0) (some d) r.v = Jx.put (envP (fun k => listed.getD k false) (disOf (tblGo (onsOf ops) []) (msFl P X ops)) rs 0 e0) (some d) (.sc (.ptr (gid H0.n (msOf P X ops) i) 0)) := by
        by_cases hdl : d < e0.length
        · have hp := hmade.ptr i d t' z' (by rw [hm0, hco]) hdl
          have hv2 : r.v = eB.getD d undefA := by
            rcases hrec with ⟨hw, _⟩ | ⟨_, _, ⟨_, h, _⟩ | ⟨_, ⟨agg, x, hop, _⟩, _⟩ | ⟨h0, _⟩⟩
            · simp [mkDI, hmi', wantedA] at hw
            · simp only [mkDI, hmi', pureA, rd, Option.some.injEq] at h
              rw [← h]
              rw [envP_agree _ (fun _ => false) d _ rs 0 eB eB (fun j d' hj hd' => ?_) rfl rfl, envP_none _ _ _ _ _ fun _ _ => rfl]
              obtain ⟨mj, hmj, rfl⟩ := dis_get' hj
              have := hone j i d mj mi hmj hm hd' (by rw [hmi'])
              subst this; simp
            · simp [mkDI, hmi'] at hop
            · simp [mkDI, hmi', clsOf, isPure] at h0
          rw [hv2, hp]
        · have : ∀ u, Jx.put (envP (fun k => listed.getD k false) (disOf (tblGo (onsOf ops) []) (msFl P X ops)) rs 0 e0) (some d) u = (envP (fun k => listed.getD k false) (disOf (tblGo (onsOf ops) []) (msFl P X ops)) rs 0 e0) := by
            intro u
            simp only [Jx.put]
            rw [List.set_eq_of_length_le]
            rw [envP_length]; omega
          rw [this, this]
      refine ⟨by simp [inv.size], hclosed, ρ.add (gid H0.n (msOf P X ops) i) ⟨w.heap.size, 0, 0⟩, ⟨?_, ?_, ?_, ?_⟩, ?_, ?_⟩
      · rw [hcU]; exact hrel
      · rw [hput, hmi', hpv]
        simp only [Jx.put, Act.put, ER, Array.toList_setIfInBounds]
        exact (ER.mono hsub cx.er).set d ⟨_, add_self _ _ _, rfl⟩
      · exact fun g hg => hsub _ _ (cx.glob g hg)
      · exact cx.nodefer
      · rw [hcU]
        refine ⟨fun id tg h => hsub _ _ (ext.sub _ _ h), fun id tg h => ?_, ext.size, ext.kept⟩
        simp only [Rho.add] at h
        split at h
        · rename_i hid; right; subst hid; unfold gid; omega
        · exact ext.new _ _ h
      · intro j d2 t2 z2 hj hnj
        rw [getD_set _ _ _ hlsz] at hnj
        split at hnj
        · cases hnj
        · rename_i hji
          obtain ⟨g1, g2⟩ := hfl j d2 t2 z2 hj hnj
          refine ⟨?_, by rw [hcU]; exact g2⟩
          simp only [Rho.add]
          rw [if_neg ?_]
          · exact g1
          · rcases Nat.lt_or_ge j i with h | h
            · have := gid_lt H0.n (msOf P X ops) j i _ hj rfl h; omega
            · have := gid_lt H0.n (msOf P X ops) i j _ hm0 hfm (by omega); omega
    · rw [hco2] at hco; cases hco
  | false =>
  have hmi2 : mi = cOper P X ops.toList o := by rw [hmi, toF_not hfm]
  have hread := hread hfm
  subst hmi2
  have hagree : Agree (reads (cOper P X ops.toList o).op) (envP (fun k => listed.getD k false) (disOf (tblGo (onsOf ops) []) (msFl P X ops)) rs 0 e0) (envP (fun j => decide (j < i)) (disOf (tblGo (onsOf ops) []) (msFl P X ops)) rs 0 eB) :=
    fun x hx => hread x (by unfold miReads; exact List.mem_append.2 (.inl hx))
  have hgagree : wantedA (envP (fun k => listed.getD k false) (disOf (tblGo (onsOf ops) []) (msFl P X ops)) rs 0 e0) (cOper P X ops.toList o).guard = wantedA (envP (fun j => decide (j < i)) (disOf (tblGo (onsOf ops) []) (msFl P X ops)) rs 0 eB) (cOper P X ops.toList o).guard :=
    wanted_congr _ fun x hx => hread x (by unfold miReads; exact List.mem_append.2 (.inr hx))
  unfold wpOp
  simp only [ho]
  rcases cOper_cases P X ops.toList o with ⟨m, g, hcm, hcg, hco⟩ | hco
  · have hdst : (cOper P X ops.toList o).dst = o.dst := by rw [hco]
    rw [hco] at hagree hgagree hcurU hcurA hrec
    simp only at hagree hgagree hcurU hcurA
    rw [wanted_eq cx hcg, hgagree]
    rcases hrec with ⟨hw, hon, hv, hh⟩ | ⟨hw, hon, hcase⟩
    · simp only [mkDI] at hw
      simp only [hw, Bool.false_eq_true, if_false]
      refine fin undefA ρ w Go.undef _ hv.symm ?_ (AVR.undef ρ) cx.rel (Ext.refl _ _) hdst
      rcases Nat.decEq (clsOf m) 2 with hc | hc
      · exact (hcurU hc).symm
      · obtain ⟨q1, q2⟩ := hcurA hc
        rw [q1, q2, hh]
    · simp only [mkDI] at hw hcase
      simp only [hw, if_true]
      left
      unfold Oper.wp
      obtain ⟨cg1, cg2, cg3⟩ := opA_congr m hagree r.h
      rcases hcase with ⟨hc, hp, hh⟩ | ⟨hc, ⟨agg, x, hop, hx, hl⟩, hh⟩ | ⟨hc0, hc1, hact⟩
      · -- pure
        rw [← cg1] at hp
        obtain ⟨u, hu, au⟩ := pure_sim hX cx hcm hp
        rw [hu, Oper.upon_value]
        exact fin r.v ρ w u _ rfl (hcurU (by omega)).symm au cx.rel (Ext.refl _ _) hdst
      · -- a load
        subst hop
        have hx' : rd (envP (fun k => listed.getD k false) (disOf (tblGo (onsOf ops) []) (msFl P X ops)) rs 0 e0) x = r.x := by rw [hx]; exact hagree.rd
        have hc2 : clsOf (MOp.load agg x) ≠ 2 := by rw [hc]; omega
        obtain ⟨ck1, ck2⟩ := check_get rs _ rs i _ r hck hd hr (by rw [hco]; simpa [mkDI] using hc) hon
        rw [hco] at ck1 ck2
        simp only [mkDI] at ck1 ck2
        have hload : loadA agg r.x (curP (fun k => listed.getD k false) (disOf (tblGo (onsOf ops) []) (msFl P X ops)) rs 0 HB) = some r.v := by
          have hN : (disOf (tblGo (onsOf ops) []) (msFl P X ops)).length = (msFl P X ops).length := by simp [disOf]
          by_cases hB : ∃ j, j < (msFl P X ops).length ∧ (i < j ∧ listed.getD j false = true ∧ ∃ mj, (msFl P X ops)[j]? = some mj ∧ clsOf mj.op = 2)
          · obtain ⟨j, hjN, ⟨hij, hjl, mj, hmj, hcj⟩, hjmax⟩ := greatest _ hB
            have hnt : ahead (tblGo (onsOf ops) []) j i = false := by
              cases hh : ahead (tblGo (onsOf ops) []) j i with
              | false => rfl
              | true => rw [hbehind j hh] at hjl; cases hjl
            obtain ⟨q, hq, hqi⟩ := ck2 j (by rw [List.mem_filter]; exact ⟨acts_mem hmj hcj, by simp [hij, hnt]⟩)
            have hqv := loadIs_eq hqi
            obtain ⟨q', hq', _, _, hq'h⟩ := chain_get _ rs 0 j eB HB e' H' _ hch (dis_get (tb := tblGo (onsOf ops) []) hmj)
            rw [hq] at hq'; cases hq'
            simp only [Nat.zero_add] at hq'h
            have : curP (fun k => listed.getD k false) (disOf (tblGo (onsOf ops) []) (msFl P X ops)) rs 0 HB = q.h' := by
              rw [hq'h]
              refine curP_agree _ _ _ rs 0 HB fun k d hk ha => ?_
              obtain ⟨mk, hmk, rfl⟩ := dis_get' hk
              simp only [Nat.zero_add]
              have hck := isAct_iff.1 ha
              by_cases hkj : k = j
              · subst hkj; rw [hjl]; simp
              · rcases Nat.lt_or_ge k j with h | h
                · have := ahead_closed (onsOf ops) _ inv.closed hL j k (fun b hb => inv.closed j b hjl hb) (s3 k j mk mj hmk hmj hck hcj h)
                  rw [this]; simp; omega
                · have hkl : listed.getD k false = false := by
                    cases hh : listed.getD k false with
                    | false => rfl
                    | true => exact absurd ⟨by omega, hh, mk, hmk, hck⟩ (hjmax k ((List.getElem?_eq_some_iff.1 hmk).1) (by omega))
                  rw [hkl]; simp; omega
            rw [this]; exact hqv
          · have hB' : ∀ j mj, i < j → (msFl P X ops)[j]? = some mj → clsOf mj.op = 2 → listed.getD j false = false := by
              intro j mj hij hmj hcj
              cases hh : listed.getD j false with
              | false => rfl
              | true => exact absurd ⟨j, (List.getElem?_eq_some_iff.1 hmj).1, hij, hh, mj, hmj, hcj⟩ hB
            by_cases hC : ∃ j, j < i ∧ listed.getD j false = false ∧ ∃ mj, (msFl P X ops)[j]? = some mj ∧ clsOf mj.op = 2
            · obtain ⟨j, ⟨hji, hjl, mj, hmj, hcj⟩, hjmin⟩ := least hC
              have hnt : ahead (tblGo (onsOf ops) []) i j = false := by
                cases hh : ahead (tblGo (onsOf ops) []) i j with
                | false => rfl
                | true => rw [hahead j hh] at hjl; cases hjl
              obtain ⟨q, hq, hqi⟩ := ck1 j (by rw [List.mem_filter]; exact ⟨acts_mem hmj hcj, by simp [hji, hnt]⟩)
              have hqv := loadIs_eq hqi
              obtain ⟨q', hq', _, hq'h, _⟩ := chain_get _ rs 0 j eB HB e' H' _ hch (dis_get (tb := tblGo (onsOf ops) []) hmj)
              rw [hq] at hq'; cases hq'
              simp only [Nat.zero_add] at hq'h
              have : curP (fun k => listed.getD k false) (disOf (tblGo (onsOf ops) []) (msFl P X ops)) rs 0 HB = q.h := by
                rw [hq'h]
                refine curP_agree _ _ _ rs 0 HB fun k d hk ha => ?_
                obtain ⟨mk, hmk, rfl⟩ := dis_get' hk
                simp only [Nat.zero_add]
                have hck := isAct_iff.1 ha
                by_cases hkj : k = j
                · subst hkj; rw [hjl]; simp
                · rcases Nat.lt_or_ge k j with h | h
                  · have hkl : listed.getD k false = true := by
                      cases hh : listed.getD k false with
                      | true => rfl
                      | false => exact absurd ⟨by omega, hh, mk, hmk, hck⟩ (hjmin k h)
                    rw [hkl]; simp [h]
                  · have hkl : listed.getD k false = false := by
                      cases hh : listed.getD k false with
                      | false => rfl
                      | true =>
                        have := ahead_closed (onsOf ops) _ inv.closed hL k j (fun b hb => inv.closed k b hh hb) (s3 j k mj mk hmj hmk hcj hck (by omega))
                        rw [hjl] at this; cases this
                    rw [hkl]; simp; omega
              rw [this]; exact hqv
            · have : curP (fun k => listed.getD k false) (disOf (tblGo (onsOf ops) []) (msFl P X ops)) rs 0 HB = r.h := by
                rw [hrh]
                refine curP_agree _ _ _ rs 0 HB fun k d hk ha => ?_
                obtain ⟨mk, hmk, rfl⟩ := dis_get' hk
                simp only [Nat.zero_add]
                have hck := isAct_iff.1 ha
                by_cases hki : k = i
                · subst hki; rw [hnl]; simp
                · rcases Nat.lt_or_ge k i with h | h
                  · have hkl : listed.getD k false = true := by
                      cases hh : listed.getD k false with
                      | true => rfl
                      | false => exact absurd ⟨k, h, hh, mk, hmk, hck⟩ hC
                    rw [hkl]; simp [h]
                  · rw [hB' k mk (by omega) hmk hck]; simp; omega
              rw [this]; exact hl
        have hop : opA (MOp.load agg x) (envP (fun k => listed.getD k false) (disOf (tblGo (onsOf ops) []) (msFl P X ops)) rs 0 e0) (curP (fun k => listed.getD k false) (disOf (tblGo (onsOf ops) []) (msFl P X ops)) rs 0 HB) = some (r.v, curP (fun k => listed.getD k false) (disOf (tblGo (onsOf ops) []) (msFl P X ops)) rs 0 HB) := by
          simp only [opA, hx', hload, Option.map_some]
        obtain ⟨ρ', w', u, hrun, au, hrel, hext⟩ := op_sim hX cx hcm rfl hop
        have hend := fin r.v ρ' w' u _ rfl (hcurU hc2).symm au hrel hext hdst
        rcases hrun with hrun | ⟨hrun, rfl⟩
        · rw [hrun, Oper.upon_value]; exact hend
        · rw [hrun, Oper.upon_skip]; exact hend
      · -- an act
        have hc : clsOf m = 2 := by rcases clsOf_le m with h | h | h <;> omega
        obtain ⟨q1, q2⟩ := hcurA hc
        rcases hact with ⟨hcall, f, args, k, x1, hk, hcal, hrun⟩ | ⟨hcall, hop⟩
        · rw [← cg3] at hcal
          have h0 : X f = 0 := by
            cases k with
            | zero => simp [run] at hrun
            | succ k =>
              simp only [run] at hrun
              split at hrun
              · cases hrun
              · rename_i md hmd; exact (hD f md hmd).1
          obtain ⟨vs, hrun2, hvs⟩ := call_enter hX cx hcm hcall hcal h0
          rw [hrun2, Oper.upon_enter]
          rw [q1] at cx fin
          refine (hF k hk f args r.h x1 r.v r.h' hrun ρ w vs cx.rel cx.glob hvs).mono ?_
          rintro en w' ⟨ρ', u, rfl, au, hr', hx'⟩
          exact fin r.v ρ' w' u r.h' rfl q2.symm au hr' hx' hdst
        · rw [← cg2, ← q1] at hop
          obtain ⟨ρ', w', u, hrun, au, hrel, hext⟩ := op_sim hX cx hcm hcall hop
          have hend := fin r.v ρ' w' u r.h' rfl q2.symm au hrel hext hdst
          rcases hrun with hrun | ⟨hrun, rfl⟩
          · rw [hrun, Oper.upon_value]; exact hend
          · rw [hrun, Oper.upon_skip]; exact hend
  · exfalso
    rw [hco] at hrec
    rcases hrec with ⟨hw, _⟩ | ⟨_, _, h | ⟨_, ⟨agg, x, hop, _⟩, _⟩ | ⟨_, _, h⟩⟩
    · simp [mkDI, wantedA] at hw
    · simp [mkDI, pureA] at h
    · simp [mkDI] at hop
    · rcases h with ⟨h, _⟩ | ⟨_, h⟩
      · simp [mkDI, isCall] at h
      · simp [mkDI, opA, pureA] at h


theorem drawF_any {ops : Array Oper} {N : Nat} {rs : List Rec} {e0 eB e' : List AV} {ρ0 : Rho} {H0 HB H' : Heap} (hmade : Made (msOf P X ops) e0 H0 eB HB) (hX : ExtOk P X) (hD : FunOk P w0 X D) (hF : ∀ k, k < N → CallOk P w0 X D k)
    (hok : drawOk (onsOf ops) (tblGo (onsOf ops) []) (msFl P X ops) = true)
    (hch : Chain D N (disOf (tblGo (onsOf ops) []) (msFl P X ops)) rs eB HB e' H')
    (hck : checkLoads rs (disOf (tblGo (onsOf ops) []) (msFl P X ops)) rs = true) {Q : Exit → Act → World → Prop} (hQ : ∀ ρ' w' a', Cx P w0 ρ' H' w' e' a' → Ext ρ0 H0 ρ' H' → Q .normal a' w') :
    ∀ (fuel : Nat) (listed : Array Bool) (a : Act) (w : World), FInv P w0 (msOf P X ops) (onsOf ops) (disOf (tblGo (onsOf ops) []) (msFl P X ops)) rs e0 ρ0 H0 HB listed a w → fuel + cnt ops.size listed = ops.size → wpAny P .any ops Q fuel listed a w := by
  obtain ⟨s1, s2, s3, s4⟩ := drawOk_spec hok
  have hlen : (disOf (tblGo (onsOf ops) []) (msFl P X ops)).length = ops.size := by simp [disOf, msFl, msOf]
  have honsget : ∀ (k : Nat) (o : Oper), ops[k]? = some o → (onsOf ops)[k]? = some ((o.after.toList.filter (Region.binds .any)).map (·.on)) := by
    intro k o ho
    simp [onsOf, List.getElem?_map, ho]
  have hrdy : ∀ (listed : Array Bool) (i : Nat), listed.size = ops.size → (i ∈ Region.ready .any ops listed ↔ i < ops.size ∧ listed.getD i false = false ∧ ∀ b, (onsOf ops)[i]? = some b → ∀ j ∈ b, listed.getD j false = true) := by
    intro listed i hsz
    unfold Region.ready
    rw [List.mem_filter]
    constructor
    · rintro ⟨h1, h2⟩
      have hi : i < ops.size := by simpa using h1
      obtain ⟨o, ho⟩ : ∃ o, ops[i]? = some o := ⟨ops[i], by simp [hi]⟩
      simp only [Bool.and_eq_true, Bool.not_eq_true', ho, Option.map_some, Option.getD_some] at h2
      refine ⟨hi, ?_, fun b hb j hj => ?_⟩
      · have := h2.1
        simp only [Array.getD_eq_getD_getElem?] at this ⊢
        have hl : listed[i]? = some listed[i] := by simp [hsz, hi]
        rw [hl] at this ⊢
        simpa using this
      · rw [honsget i o ho, Option.some.injEq] at hb
        subst hb
        rw [List.mem_map] at hj
        obtain ⟨ed, hed, rfl⟩ := hj
        obtain ⟨hed, hbi⟩ := List.mem_filter.1 hed
        have := h2.2
        rw [← Array.all_toList, List.all_eq_true] at this
        have := this ed hed
        rw [hbi] at this
        simpa using this
    · rintro ⟨hi, h1, h2⟩
      obtain ⟨o, ho⟩ : ∃ o, ops[i]? = some o := ⟨ops[i], by simp [hi]⟩
      refine ⟨by simpa using hi, ?_⟩
      simp only [Bool.and_eq_true, Bool.not_eq_true', ho, Option.map_some, Option.getD_some]
      constructor
      · simp only [Array.getD_eq_getD_getElem?] at h1 ⊢
        have hl : listed[i]? = some listed[i] := by simp [hsz, hi]
        rw [hl] at h1 ⊢
        simpa using h1
      · rw [← Array.all_toList, List.all_eq_true]
        intro ed hed
        cases hbi : Region.binds .any ed with
        | false => rfl
        | true =>
          simp only [Bool.not_true, Bool.false_or]
          exact h2 _ (honsget i o ho) ed.on (List.mem_map.2 ⟨ed, List.mem_filter.2 ⟨hed, hbi⟩, rfl⟩)
  have hall : ∀ (listed : Array Bool), listed.size = ops.size → Region.ready .any ops listed = [] → ∀ k, k < ops.size → listed.getD k false = true := by
    intro listed hsz hr k hk
    cases hh : listed.getD k false with
    | true => rfl
    | false =>
      obtain ⟨j, ⟨hj1, hj2⟩, hj3⟩ := least (p := fun k => k < ops.size ∧ listed.getD k false = false) ⟨k, hk, hh⟩
      have : j ∈ Region.ready .any ops listed := (hrdy listed j hsz).2 ⟨hj1, hj2, fun b hb m hm => by
        have hlt := s2 j b hb m hm
        cases hm2 : listed.getD m false with
        | true => rfl
        | false => exact absurd ⟨by omega, hm2⟩ (hj3 m hlt)⟩
      rw [hr] at this; cases this
  have hend : ∀ (listed : Array Bool) (a : Act) (w : World), FInv P w0 (msOf P X ops) (onsOf ops) (disOf (tblGo (onsOf ops) []) (msFl P X ops)) rs e0 ρ0 H0 HB listed a w → (∀ k, k < ops.size → listed.getD k false = true) → Q .normal a w := by
    intro listed a w inv hl
    obtain ⟨ρ, cx, ext, _⟩ := inv.st
    obtain ⟨c1, c2, c3⟩ := chain_end _ rs 0 eB HB e' H' hch
    have h1 : curP (fun k => listed.getD k false) (disOf (tblGo (onsOf ops) []) (msFl P X ops)) rs 0 HB = H' := by
      rw [c2]
      refine curP_agree _ _ _ rs 0 HB fun j d hj _ => ?_
      rw [Nat.zero_add]
      exact hl j (by rw [← hlen]; exact (List.getElem?_eq_some_iff.1 hj).1)
    have h2 : envP (fun k => listed.getD k false) (disOf (tblGo (onsOf ops) []) (msFl P X ops)) rs 0 e0 = e' := by
      rw [c1]
      refine list_ext (by rw [envP_length, envP_length, hmade.len]) fun x => ?_
      have htrue : ∀ j d, (disOf (tblGo (onsOf ops) []) (msFl P X ops))[j]? = some d → listed.getD j false = true := fun j d hj => hl j (by rw [← hlen]; exact (List.getElem?_eq_some_iff.1 hj).1)
      by_cases hfx : ∃ (j : Nat) (m : MI), (msOf P X ops)[j]? = some m ∧ isFl m = true ∧ m.dst = some x
      · obtain ⟨j, m, hj, hf, hdx⟩ := hfx
        obtain ⟨d, t, z, rfl⟩ := isFl_spec hf
        simp only [Option.some.injEq] at hdx
        subst hdx
        have hj2 := fl_get hj
        have hdj := dis_get (tb := tblGo (onsOf ops) []) hj2
        have hjl := (List.getElem?_eq_some_iff.1 hdj).1
        refine envP_fix (r := rs[j]'(by omega)) hdj (by simp [c3, hjl]) rfl (fun k d' hk hd' => ?_) (htrue j _ hdj) rfl hmade.len.symm
        obtain ⟨mk, hmk, rfl⟩ := dis_get' hk
        by_cases hjk : k = j
        · exact hjk
        · exact absurd hd' (s4 k j mk _ hjk hmk hj2 d rfl).1
      · have hb := hmade.same x (fun (j : Nat) (m : MI) hj hf hd => hfx ⟨j, m, hj, hf, hd⟩)
        refine envP_agree _ _ x _ rs 0 e0 eB (fun j d hj _ => ?_) hmade.len.symm hb.symm
        rw [Nat.zero_add]
        exact htrue j d hj
    rw [h1, h2] at cx
    rw [h1] at ext
    exact hQ ρ w a cx ext
  intro fuel
  induction fuel with
  | zero =>
    intro listed a w inv hc
    have hsz : listed.size = ops.size := by rw [inv.size, hlen]
    have hf := cnt_full ops.size (by omega : cnt ops.size listed = ops.size)
    refine ⟨?_, hend listed a w inv hf⟩
    apply List.eq_nil_iff_forall_not_mem.2
    intro i hi
    obtain ⟨h1, h2, _⟩ := (hrdy listed i hsz).1 hi
    rw [hf i h1] at h2; cases h2
  | succ fuel ih =>
    intro listed a w inv hc
    have hsz : listed.size = ops.size := by rw [inv.size, hlen]
    refine ⟨fun hr => hend listed a w inv (hall listed hsz hr), fun i hi => ?_⟩
    obtain ⟨h1, h2, h3⟩ := (hrdy listed i hsz).1 hi
    refine wpOp_mono (fun a' w' inv' => ih _ a' w' inv' ?_) (drawF_step hmade hX hD hF hok hch hck inv h1 h2 h3)
    rw [cnt_set (by omega) h2 ops.size h1]; omega

theorem lateOk_spec {ms : List MI} (h : lateOk ms = true) (i j d : Nat) (mi : MI) (t : TypeId) (z : List SV) (hi : (ms.map toF)[i]? = some mi) (hj : ms[j]? = some ⟨some d, .alloc t z, none⟩) (hij : i < j) : d ∉ miReads mi := by
  unfold lateOk at h
  rw [List.all_eq_true] at h
  have hlt := (List.getElem?_eq_some_iff.1 hj).1
  have h1 := h i (by simp; omega)
  rw [List.all_eq_true] at h1
  have h2 := h1 j (by simpa using hlt)
  rw [hi, hj] at h2
  simpa [hij, isFl] using h2

theorem drawF_region {ops : Array Oper} {id n1 n2 N : Nat} {x : Ex} {eB e' : List AV} {HB H' : Heap} (hn : n2 ≤ N) (hX : ExtOk P X) (hD : FunOk P w0 X D) (hF : ∀ k, k < N → CallOk P w0 X D k) (hmix : P.follows .mixedOrders = true)
    (hok : drawOk (onsOf ops) (tblGo (onsOf ops) []) (msFl P X ops) = true) (hlate : lateOk (msOf P X ops) = true)
    (hrun1 : run D n1 (.ops ((msOf P X ops).filter isFl) e H) = some (.normal, eB, HB))
    (hrun : run D n2 (.dops (disOf (tblGo (onsOf ops) []) (msFl P X ops)) (disOf (tblGo (onsOf ops) []) (msFl P X ops)) eB HB []) = some (x, e', H')) {Q : Exit → Act → World → Prop} (cx : Cx P w0 ρ H w e a)
    (hQ : ∀ ρ' w' a', Cx P w0 ρ' H' w' e' a' → Ext ρ H ρ' H' → Q (exOf x) a' w') : (Code.region id ops true).wp P Q a w := by
  obtain ⟨rs, hch, rfl, hck⟩ := dops_chain n2 N hn _ _ eB HB [] x e' H' hrun
  obtain ⟨_, b1, b2, b3, b4, b5, b6⟩ := alloc_run n1 (msOf P X ops) e H _ eB HB cx.rel.wf hrun1
  obtain ⟨s1, s2, s3, s4⟩ := drawOk_spec hok
  have hmade : Made (msOf P X ops) e H eB HB := by
    refine ⟨b1, b5, fun j d t z hj hd => (b6 j d t z hj).2 (fun k m hk hm hf hdm => ?_) hd, fun i j d mi t z hi hj hij => lateOk_spec hlate i j d mi t z hi hj hij⟩
    obtain ⟨d', t', z', rfl⟩ := isFl_spec hf
    simp only [Option.some.injEq] at hdm
    subst hdm
    exact (s4 k j _ _ hk (fl_get hm) (fl_get hj) d' rfl).1 rfl
  have h0 : ∀ j, (Array.replicate ops.size false).getD j false = false := by
    intro j
    simp only [Array.getD_eq_getD_getElem?, Array.getElem?_replicate]
    split <;> rfl
  refine wp_region_any hmix ?_
  refine drawF_any (ρ0 := ρ) (H0 := H) (e0 := e) (rs := rs) hmade hX hD hF hok hch (by rw [List.reverse_nil, List.nil_append] at hck; exact hck) hQ ops.size _ a _ ?_ ?_
  · refine ⟨by simp [disOf, msFl, msOf], ?_, ρ, ?_, ?_, ?_⟩
    · intro k b hk
      rw [h0] at hk; cases hk
    · rw [curP_none _ _ _ _ _ fun j _ => h0 _, envP_none _ _ _ _ _ fun j _ => h0 _]
      have r := cx.rel.of_eq (w' := { w with drawn := w.drawn + 1 }) rfl rfl rfl rfl
      refine ⟨⟨r.below, b2, fun id t h => Nat.lt_of_lt_of_le (r.dom _ _ h) b3, fun id t o h1 h2 => ?_, fun id id' t t' o o' h1 h2 hne g1 g2 => ?_⟩, cx.er, cx.glob, cx.nodefer⟩
      · rw [b4 id (r.dom _ _ h1)] at h2; exact r.objs _ _ _ h1 h2
      · rw [b4 id (r.dom _ _ h1)] at g1; rw [b4 id' (r.dom _ _ h2)] at g2; exact r.sep _ _ _ _ _ _ h1 h2 hne g1 g2
    · rw [curP_none _ _ _ _ _ fun j _ => h0 _]
      exact ⟨fun _ _ h => h, fun _ _ h => .inl h, b3, fun id hid _ => b4 id hid⟩
    · intro j d t z hj _
      rw [curP_none _ _ _ _ _ fun j _ => h0 _]
      refine ⟨?_, (b6 j d t z hj).1⟩
      cases hh : ρ (gid H.n (msOf P X ops) j) with
      | none => rfl
      | some t' => have := cx.rel.dom _ _ hh; unfold gid at this; omega
  · have : cnt ops.size (Array.replicate ops.size false) = 0 := by
      unfold cnt
      rw [List.countP_eq_zero]
      intro k _
      rw [h0]; simp
    omega

end
end Go.Jx
