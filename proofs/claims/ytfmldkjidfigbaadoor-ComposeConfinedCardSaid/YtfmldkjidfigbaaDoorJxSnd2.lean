/-
  What the plain machine answers at an operator, the model answers.
-/
import Derived.Test.YtfmldkjidfigbaaDoorJxSnd1
import Derived.Laws.StructEq
import Derived.ChangeKeysEq
namespace Go.Jx
open Go Go.RowKit
set_option linter.unusedSimpArgs false
set_option linter.unusedVariables false

theorem fits_length : ∀ {ks : List LK} {xs : List SV}, fits ks xs = true → xs.length = ks.length
  | [], [], _ => rfl
  | .int k :: ks, .int j _ :: x, h => by simp [fits] at h; simp [fits_length h.2]
  | .bool :: ks, .bool _ :: x, h => by simp [fits] at h; simp [fits_length h]
  | .str :: ks, .str _ :: x, h => by simp [fits] at h; simp [fits_length h]
  | [], _ :: _, h => by simp [fits] at h
  | k :: _, [], h => by cases k <;> simp [fits] at h
  | .int _ :: _, .bool _ :: _, h => by simp [fits] at h
  | .int _ :: _, .str _ :: _, h => by simp [fits] at h
  | .int _ :: _, .nilp :: _, h => by simp [fits] at h
  | .int _ :: _, .ptr _ _ :: _, h => by simp [fits] at h
  | .int _ :: _, .nils :: _, h => by simp [fits] at h
  | .int _ :: _, .slice _ _ _ _ :: _, h => by simp [fits] at h
  | .int _ :: _, .eslice _ :: _, h => by simp [fits] at h
  | .int _ :: _, .func _ _ :: _, h => by simp [fits] at h
  | .int _ :: _, .nilf :: _, h => by simp [fits] at h
  | .int _ :: _, .nili :: _, h => by simp [fits] at h
  | .int _ :: _, .anyp :: _, h => by simp [fits] at h
  | .bool :: _, .int _ _ :: _, h => by simp [fits] at h
  | .bool :: _, .str _ :: _, h => by simp [fits] at h
  | .bool :: _, .nilp :: _, h => by simp [fits] at h
  | .bool :: _, .ptr _ _ :: _, h => by simp [fits] at h
  | .bool :: _, .nils :: _, h => by simp [fits] at h
  | .bool :: _, .slice _ _ _ _ :: _, h => by simp [fits] at h
  | .bool :: _, .eslice _ :: _, h => by simp [fits] at h
  | .bool :: _, .func _ _ :: _, h => by simp [fits] at h
  | .bool :: _, .nilf :: _, h => by simp [fits] at h
  | .bool :: _, .nili :: _, h => by simp [fits] at h
  | .bool :: _, .anyp :: _, h => by simp [fits] at h
  | .str :: _, .int _ _ :: _, h => by simp [fits] at h
  | .str :: _, .bool _ :: _, h => by simp [fits] at h
  | .str :: _, .nilp :: _, h => by simp [fits] at h
  | .str :: _, .ptr _ _ :: _, h => by simp [fits] at h
  | .str :: _, .nils :: _, h => by simp [fits] at h
  | .str :: _, .slice _ _ _ _ :: _, h => by simp [fits] at h
  | .str :: _, .eslice _ :: _, h => by simp [fits] at h
  | .str :: _, .func _ _ :: _, h => by simp [fits] at h
  | .str :: _, .nilf :: _, h => by simp [fits] at h
  | .str :: _, .nili :: _, h => by simp [fits] at h
  | .str :: _, .anyp :: _, h => by simp [fits] at h

theorem fits_cons {k : LK} {ks : List LK} {x : SV} {xs : List SV} (h : fits (k :: ks) (x :: xs) = true) : fits [k] [x] = true ∧ fits ks xs = true := by
  cases k <;> cases x <;> simp_all [fits]
theorem fits_take : ∀ (n : Nat) {ks : List LK} {xs : List SV}, fits ks xs = true → fits (ks.take n) (xs.take n) = true
  | 0, _, _, _ => by simp [fits]
  | n + 1, [], xs, h => by
    have := fits_length h
    cases xs with
    | nil => rfl
    | cons _ _ => simp at this
  | n + 1, k :: ks, [], h => by have := fits_length h; simp at this
  | n + 1, k :: ks, x :: xs, h => by
    obtain ⟨h1, h2⟩ := fits_cons h
    have ih := fits_take n h2
    cases k <;> cases x <;> simp_all [fits]
theorem fits_drop : ∀ (n : Nat) {ks : List LK} {xs : List SV}, fits ks xs = true → fits (ks.drop n) (xs.drop n) = true
  | 0, _, _, h => h
  | n + 1, [], xs, h => by
    have := fits_length h
    cases xs with
    | nil => rfl
    | cons _ _ => simp at this
  | n + 1, k :: ks, [], h => by have := fits_length h; simp at this
  | n + 1, k :: ks, x :: xs, h => by simpa using fits_drop n (fits_cons h).2

theorem fits_int {k : IntKind} {xs : List SV} (h : fits [.int k] xs = true) : ∃ n, xs = [.int k n] := by
  match xs, fits_length h with
  | [x], _ => cases x <;> simp [fits] at h; subst h; exact ⟨_, rfl⟩
theorem fits_bool {xs : List SV} (h : fits [.bool] xs = true) : ∃ n, xs = [.bool n] := by
  match xs, fits_length h with
  | [x], _ => cases x <;> simp [fits] at h; exact ⟨_, rfl⟩
theorem fits_str {xs : List SV} (h : fits [.str] xs = true) : ∃ n, xs = [.str n] := by
  match xs, fits_length h with
  | [x], _ => cases x <;> simp [fits] at h; exact ⟨_, rfl⟩
theorem LR.single {α β : Type} {R : α → β → Prop} {x : α} {Y : List β} (h : LR R [x] Y) : ∃ y, Y = [y] ∧ R x y := by
  match Y, h with
  | [y], h => exact ⟨y, rfl, h.1⟩

section
variable {P : Program} {w0 w : World} {ρ : Rho} {H : Heap} {e : List AV} {a : Act}

def isSt (P : Program) (t : TypeId) : Bool := match P.underlying t with | some (.struct _) => true | some (.array _ _) => true | _ => false
def packT (P : Program) (t : TypeId) (X : List Value) : Value := if isSt P t then .agg X.toArray else X.getD 0 undef

theorem lay_go_prefix (d : Nat) : ∀ (fs : List Field) (acc ks : List LK), layGo P (lay P d) fs acc = some ks → ∃ more, ks = acc ++ more
  | [], acc, ks, h => by simp [layGo] at h; exact ⟨[], by simp [h]⟩
  | f :: r, acc, ks, h => by
    rw [layGo] at h
    split at h
    · cases h
    · split at h
      · split at h
        · obtain ⟨m, hm⟩ := lay_go_prefix d r _ _ h
          exact ⟨_, by rw [hm, List.append_assoc]⟩
        · cases h
      · cases h

theorem part_lay {d : Nat} {t : TypeId} {ks : List LK} (h : lay P d t = some ks) (hs : size? P t = some ks.length) (cells : Array Value) (off : Nat) (hb : off + ks.length ≤ cells.size) :
    (part t cells off).run P w = .ok (packT P t ((cells.toList.drop off).take ks.length)) w := by
  cases d with
  | zero => simp [lay] at h
  | succ d =>
    unfold lay at h
    have leaf : ∀ (k : LK), isSt P t = false → (isAgg t).run P w = .ok false w → ks = [k] → (part t cells off).run P w = .ok (packT P t ((cells.toList.drop off).take ks.length)) w := by
      intro k h1 h2 h3
      subst h3
      simp only [List.length_singleton] at hb ⊢
      have hlt : off < cells.size := by omega
      simp only [part, Sem.run_bind, h2, Result.andThen_ok, packT, h1, Bool.false_eq_true, if_false]
      have : cells[off]? = some cells[off] := by simp [hlt]
      rw [this]
      simp [hlt, List.getD]
    split at h
    · rename_i k hu; cases h
      exact leaf _ (by simp [isSt, hu]) (by simp [isAgg, underlying, hu]) rfl
    · rename_i hu; cases h
      exact leaf _ (by simp [isSt, hu]) (by simp [isAgg, underlying, hu]) rfl
    · rename_i hu; cases h
      exact leaf _ (by simp [isSt, hu]) (by simp [isAgg, underlying, hu]) rfl
    · rename_i fs hu
      have h2 : (isAgg t).run P w = .ok true w := by simp [isAgg, underlying, hu]
      simp only [part, Sem.run_bind, h2, Result.andThen_ok, if_true, run_sizeOf hs, Sem.run_pure, packT, isSt, hu]
      congr 2
      apply Array.ext'
      simp [List.take_drop]
    · rename_i n el hu
      have h2 : (isAgg t).run P w = .ok true w := by simp [isAgg, underlying, hu]
      simp only [part, Sem.run_bind, h2, Result.andThen_ok, if_true, run_sizeOf hs, Sem.run_pure, packT, isSt, hu]
      congr 2
      apply Array.ext'
      simp [List.take_drop]
    · cases h

theorem decide_and_eq {p q r : Prop} [Decidable p] [Decidable q] [Decidable r] (h : p ↔ q ∧ r) : decide p = (decide q && decide r) := by
  by_cases hq : q <;> by_cases hr : r <;> simp [h, hq, hr]

theorem split_eq {α : Type} (xs ys : List α) (n : Nat) : xs = ys ↔ xs.take n = ys.take n ∧ xs.drop n = ys.drop n :=
  ⟨fun h => by rw [h]; exact ⟨rfl, rfl⟩, fun ⟨h1, h2⟩ => by rw [← List.take_append_drop n xs, ← List.take_append_drop n ys, h1, h2]⟩

def LayOk (P : Program) (ρ : Rho) (w : World) (d : Nat) : Prop := ∀ (t : TypeId) (ks : List LK) (m : Nat) (xs ys : List SV) (X Y : List Value), lay P d t = some ks → d ≤ m → fits ks xs = true → fits ks ys = true → LR (SVR ρ) xs X → LR (SVR ρ) ys Y →
    (Op.equalIn m t (packT P t X) (packT P t Y)).run P w = .ok (decide (xs = ys)) w

theorem equalIn_go (d : Nat) (hd : LayOk P ρ w d) : ∀ (fs : List Field) (acc ks : List LK) (m : Nat) (xs ys : List SV) (X Y : List Value), layGo P (lay P d) fs acc = some ks → d ≤ m → fits ks xs = true → fits ks ys = true → LR (SVR ρ) xs X → LR (SVR ρ) ys Y →
    (Op.eqFields m X.toArray Y.toArray fs).run P w = .ok (decide (xs.drop acc.length = ys.drop acc.length)) w
  | [], acc, ks, m, xs, ys, X, Y, h, hm, fx, fy, rx, ry => by
    simp [layGo] at h; subst h
    have h1 := fits_length fx
    have h2 := fits_length fy
    simp [Op.eqFields, List.drop_eq_nil_of_le, h1, h2]
  | f :: r, acc, ks, m, xs, ys, X, Y, h, hm, fx, fy, rx, ry => by
    rw [layGo] at h
    split at h
    · cases h
    · rename_i hne
      split at h
      · rename_i kf hk
        split at h
        · rename_i hsz
          have hnm : f.name ≠ "_" := fun hh => hne (.inl hh)
          have hoff : f.offset = acc.length := Decidable.byContradiction fun hh => hne (.inr hh)
          obtain ⟨more, hmore⟩ := lay_go_prefix d r _ _ h
          have lx := fits_length fx
          have ly := fits_length fy
          have lk : ks.length = acc.length + kf.length + more.length := by rw [hmore]; simp; omega
          have px := part_lay (w := w) hk hsz X.toArray f.offset (by simp [hoff, ← rx.length]; omega)
          have py := part_lay (w := w) hk hsz Y.toArray f.offset (by simp [hoff, ← ry.length]; omega)
          have kseg : (ks.drop acc.length).take kf.length = kf := by rw [hmore, List.append_assoc]; simp
          have fx' := fits_take kf.length (fits_drop acc.length fx)
          have fy' := fits_take kf.length (fits_drop acc.length fy)
          rw [kseg] at fx' fy'
          have he := hd _ _ m _ _ _ _ hk hm fx' fy' ((rx.drop acc.length).take kf.length) ((ry.drop acc.length).take kf.length)
          have ih := equalIn_go d hd r (acc ++ kf) ks m xs ys X Y h hm fx fy rx ry
          simp only [hoff, List.toList_toArray] at px py
          simp only [Op.eqFields, hoff, Sem.run_bind, px, py, Result.andThen_ok, ne_eq, hnm, not_false_eq_true, if_true]
          rw [he]
          simp only [Result.andThen_ok, List.length_append] at ih ⊢
          have key : decide (xs.drop acc.length = ys.drop acc.length) = (decide ((xs.drop acc.length).take kf.length = (ys.drop acc.length).take kf.length) && decide (xs.drop (acc.length + kf.length) = ys.drop (acc.length + kf.length))) := by
            apply decide_and_eq
            rw [split_eq _ _ kf.length, List.drop_drop, List.drop_drop]
          rw [key]
          cases hd : decide ((xs.drop acc.length).take kf.length = (ys.drop acc.length).take kf.length) with
          | true => simp only [Bool.not_true, Bool.false_eq_true, if_false, Bool.true_and]; exact ih
          | false => simp
        · cases h
      · cases h

theorem seg_flat (ks : List LK) : ∀ (n k : Nat), k < n → ((List.replicate n ks).flatten.drop (k * ks.length)).take ks.length = ks
  | 0, k, h => by omega
  | n + 1, 0, _ => by simp [List.replicate_succ]
  | n + 1, k + 1, h => by
    have ih := seg_flat ks n k (by omega)
    rw [List.replicate_succ, List.flatten_cons, Nat.succ_mul, Nat.add_comm, ← List.drop_drop, List.drop_left]
    exact ih

theorem equalIn_items (d : Nat) (hd : LayOk P ρ w d) {el : TypeId} {kf : List LK} (hk : lay P d el = some kf) (hsz : size? P el = some kf.length) (m : Nat) (hm : d ≤ m) (n : Nat) (xs ys : List SV) (X Y : List Value)
    (fx : fits (List.replicate n kf).flatten xs = true) (fy : fits (List.replicate n kf).flatten ys = true) (rx : LR (SVR ρ) xs X) (ry : LR (SVR ρ) ys Y) :
    ∀ (c k : Nat), k + c ≤ n → (Op.eqItems m el (P.cellsOf el) X.toArray Y.toArray (List.range' k c)).run P w = .ok (decide ((xs.drop (k * kf.length)).take (c * kf.length) = (ys.drop (k * kf.length)).take (c * kf.length))) w
  | 0, k, _ => by simp [Op.eqItems]
  | c + 1, k, hc => by
    have ih := equalIn_items d hd hk hsz m hm n xs ys X Y fx fy rx ry c (k + 1) (by omega)
    have lx := fits_length fx
    have ly := fits_length fy
    have hlen : (List.replicate n kf).flatten.length = n * kf.length := by simp
    have hco := cellsOf_of hsz
    have hfit : k * kf.length + kf.length ≤ n * kf.length := by
      rw [← Nat.succ_mul]; exact Nat.mul_le_mul_right _ (by omega)
    have px := part_lay (w := w) hk hsz X.toArray (k * kf.length) (by simp only [List.size_toArray, ← rx.length]; omega)
    have py := part_lay (w := w) hk hsz Y.toArray (k * kf.length) (by simp only [List.size_toArray, ← ry.length]; omega)
    have fx' := fits_take kf.length (fits_drop (k * kf.length) fx)
    have fy' := fits_take kf.length (fits_drop (k * kf.length) fy)
    rw [seg_flat kf n k (by omega)] at fx' fy'
    have he := hd _ _ m _ _ _ _ hk hm fx' fy' ((rx.drop (k * kf.length)).take kf.length) ((ry.drop (k * kf.length)).take kf.length)
    simp only [List.toList_toArray] at px py
    rw [List.range'_succ]
    simp only [Op.eqItems, hco, Sem.run_bind, px, py, Result.andThen_ok, he]
    rw [hco] at ih
    have key : decide ((xs.drop (k * kf.length)).take ((c + 1) * kf.length) = (ys.drop (k * kf.length)).take ((c + 1) * kf.length)) =
        (decide ((xs.drop (k * kf.length)).take kf.length = (ys.drop (k * kf.length)).take kf.length) && decide ((xs.drop ((k + 1) * kf.length)).take (c * kf.length) = (ys.drop ((k + 1) * kf.length)).take (c * kf.length))) := by
      apply decide_and_eq
      rw [split_eq _ _ kf.length]
      have e1 : (c + 1) * kf.length = kf.length + c * kf.length := by rw [Nat.succ_mul, Nat.add_comm]
      have e2 : (k + 1) * kf.length = k * kf.length + kf.length := by rw [Nat.succ_mul]
      simp only [e1, e2, List.take_take, List.drop_take, List.drop_drop, Nat.min_def]
      rw [if_pos (by omega), Nat.add_sub_cancel_left]
    rw [key]
    cases hdd : decide ((xs.drop (k * kf.length)).take kf.length = (ys.drop (k * kf.length)).take kf.length) with
    | true => simp only [Bool.not_true, Bool.false_eq_true, if_false, Bool.true_and]; exact ih
    | false => simp

theorem equalIn_lay : ∀ (d : Nat), LayOk P ρ w d := by
  intro d
  induction d with
  | zero => intro t ks m xs ys X Y h; simp [lay] at h
  | succ d ih =>
    intro t ks m xs ys X Y h hm fx fy rx ry
    obtain ⟨m, rfl⟩ : ∃ k, m = k + 1 := ⟨m - 1, by omega⟩
    unfold lay at h
    split at h
    · rename_i k hu; cases h
      obtain ⟨a, rfl⟩ := fits_int fx
      obtain ⟨b, rfl⟩ := fits_int fy
      obtain ⟨u, rfl, e1⟩ := rx.single
      obtain ⟨v, rfl, e2⟩ := ry.single
      simp only [SVR] at e1 e2
      subst e1; subst e2
      simp only [packT, isSt, hu, Bool.false_eq_true, if_false, List.getD_cons_zero, Op.equalIn, Sem.run_bind, run_underlying hu, Result.andThen_ok, if_true, Sem.run_pure]
      congr 1
      by_cases hab : a = b <;> simp [hab]
    · rename_i hu; cases h
      obtain ⟨a, rfl⟩ := fits_bool fx
      obtain ⟨b, rfl⟩ := fits_bool fy
      obtain ⟨u, rfl, e1⟩ := rx.single
      obtain ⟨v, rfl, e2⟩ := ry.single
      simp only [SVR] at e1 e2
      subst e1; subst e2
      simp only [packT, isSt, hu, Bool.false_eq_true, if_false, List.getD_cons_zero, Op.equalIn, Sem.run_bind, run_underlying hu, Result.andThen_ok, if_true, Sem.run_pure]
      congr 1
      by_cases hab : a = b <;> simp [hab]
    · rename_i hu; cases h
      obtain ⟨a, rfl⟩ := fits_str fx
      obtain ⟨b, rfl⟩ := fits_str fy
      obtain ⟨u, rfl, e1⟩ := rx.single
      obtain ⟨v, rfl, e2⟩ := ry.single
      simp only [SVR] at e1 e2
      subst e1; subst e2
      simp only [packT, isSt, hu, Bool.false_eq_true, if_false, List.getD_cons_zero, Op.equalIn, Sem.run_bind, run_underlying hu, Result.andThen_ok, if_true, Sem.run_pure]
      congr 1
      show ((a.toArray == b.toArray : Bool)) = _
      by_cases hab : a = b <;> simp [hab]
    · rename_i fs hu
      split at h
      · cases h
      · rename_i hst
        have hf : P.fieldsOf t = fs := by simp [Program.fieldsOf, hu]
        have hst' : P.stoodInHeld t = false := by simpa using hst
        have := equalIn_go d ih fs.toList [] ks m xs ys X Y h (by omega) fx fy rx ry
        simp only [packT, isSt, hu, if_true]
        rw [run_equalIn_struct (P := P) w m t X.toArray Y.toArray (by rw [hf]; exact hu) hst', hf, this]
        simp
    · rename_i n el hu
      split at h
      · rename_i kf hk
        split at h
        · rename_i hsz
          cases h
          have hlen : (List.replicate n kf).flatten.length = n * kf.length := by simp
          have this := equalIn_items d ih hk hsz m (by omega) n xs ys X Y fx fy rx ry n 0 (by omega)
          obtain ⟨inf, hinf⟩ : ∃ i, P.info? el = some i := by
            unfold size? at hsz
            cases hh : P.info? el with
            | none => simp [hh] at hsz
            | some i => exact ⟨i, rfl⟩
          simp only [packT, isSt, hu, if_true]
          rw [run_equalIn_array (P := P) w m X.toArray Y.toArray hu hinf, List.range_eq_range', this]
          have lx := fits_length fx
          have ly := fits_length fy
          simp only [Nat.zero_mul, List.drop_zero]
          rw [List.take_of_length_le (by omega), List.take_of_length_le (by omega)]
        · cases h
      · cases h
    · cases h

end
end Go.Jx
