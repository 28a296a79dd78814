import Derived.Test.YtbkhjpclnfljbaaDoorJxW23MC
/- Views: the law CopyStill, one act. -/
set_option linter.unusedSimpArgs false
set_option linter.unusedVariables false
set_option maxHeartbeats 1000000
set_option maxRecDepth 100000
namespace Go.Proofs.YtbkhjpclnfljbaaDoor
open Go Go.Jx

abbrev act8 : MCode := (.block 10 (.seq (.ops m8_r31) (.cond (.t 137) (.draw m8_r32) (.seq (.ops m8_r33) (.cond (.t 151) (.draw m8_r34) (.seq (.ops m8_r35) (.cond (.t 165) (.ops m8_r36) (.seq (.ops m8_r37) (.cond (.t 169) (.ops m8_r38) (.seq (.ops m8_r39) (.cond (.t 173) (.draw m8_r40) .skip)))))))))))
theorem w8_act {R : Ro} {M : List Hp} {h : Heap} {e : List AV} {id : Nat} {lv mk va : SV} {v : Vw} {G : List LnC} {AS : List ActV} {k : Nat} {a : ActV} (hA : a = AS.getD (k : Int).toNat actE.dflt) (he : EnvIs 267 [(2, .sc va), (15, i64 (k : Int)), (17, .sc (.ptr id 0)), (136, .sc (.int .u8 a.d))] e) (hs : Sep R (vwO id lv mk v :: M) h) (hG : VwR R lv mk v G) (ok : OkV v) (hva : SlR actE R va AS) (hk : k < AS.length) (ha : okA a) :
    W DD (.code (act8) e h) (fun x e' h' => x = .normal ∧ ∃ sl, (∃ (R' : Ro) (mk' : SV), sl = [] ∧ R.le R' ∧ VwR R' lv mk' (actV v a) G ∧ Sep R' (vwO id lv mk' (actV v a) :: M) h') ∧ EnvB e [137, 138, 139, 140, 141, 142, 143, 144, 145, 146, 147, 148, 149, 150, 151, 152, 153, 154, 155, 156, 157, 158, 159, 160, 161, 162, 163, 164, 165, 166, 167, 168, 169, 170, 171, 172, 173, 174, 175, 176, 177, 178, 179, 180, 181, 182, 183, 184, 185, 186, 187] [0, 1, 2, 3, 4, 5, 6, 7, 8, 9, 10, 11, 12, 13, 14, 15, 16, 17, 18, 19, 20, 21, 22, 23, 24, 25, 26, 27, 28, 29, 30, 31, 32, 33, 34, 35, 36, 37, 38, 39, 40, 41, 42, 43, 44, 45, 46, 47, 48, 49, 50, 51, 52, 53, 54, 55, 56, 57, 58, 59, 60, 61, 62, 63, 64, 65, 66, 67, 68, 69, 70, 71, 72, 73, 74, 75, 76, 77, 78, 79, 80, 81, 82, 83, 84, 85, 86, 87, 88, 89, 90, 91, 92, 93, 94, 95, 96, 97, 98, 99, 100, 101, 102, 103, 104, 105, 106, 107, 108, 109, 110, 111, 112, 113, 114, 115, 116, 117, 118, 119, 120, 121, 122, 123, 124, 125, 126, 127, 128, 129, 130, 131, 132, 133, 134, 135, 136, 137, 138, 139, 140, 141, 142, 143, 144, 145, 146, 147, 148, 149, 150, 151, 152, 153, 154, 155, 156, 157, 158, 159, 160, 161, 162, 163, 164, 165, 166, 167, 168, 169, 170, 171, 172, 173, 174, 175, 176, 177, 178, 179, 180, 181, 182, 183, 184, 185, 186, 187, 188, 189, 190, 191, 192, 193, 194, 195, 196, 197, 198, 199, 200, 201, 202, 203, 204, 205, 206, 207, 208, 209, 210, 211, 212, 213, 214, 215, 216, 217, 218, 219, 220, 221, 222, 223, 224, 225, 226, 227, 228, 229, 230, 231, 232, 233, 234, 235, 236, 237, 238, 239, 240, 241, 242, 243, 244, 245, 246, 247, 248, 249, 250, 251, 252, 253, 254, 255, 256, 257, 258, 259, 260, 261, 262, 263, 264, 265, 266] sl e') := by
  obtain ⟨ax, ay, al⟩ := ha
  have hln := hva.ln
  obtain ⟨us, rfl⟩ := he.list
  rw [show mkE us [(2, .sc va), (15, i64 (k : Int)), (17, .sc (.ptr id 0)), (136, .sc (.int .u8 a.d))] 0 267 = [us 0, us 1, .sc va, us 3, us 4, us 5, us 6, us 7, us 8, us 9, us 10, us 11, us 12, us 13, us 14, i64 (k : Int), us 16, .sc (.ptr id 0), us 18, us 19, us 20, us 21, us 22, us 23, us 24, us 25, us 26, us 27, us 28, us 29, us 30, us 31, us 32, us 33, us 34, us 35, us 36, us 37, us 38, us 39, us 40, us 41, us 42, us 43, us 44, us 45, us 46, us 47, us 48, us 49, us 50, us 51, us 52, us 53, us 54, us 55, us 56, us 57, us 58, us 59, us 60, us 61, us 62, us 63, us 64, us 65, us 66, us 67, us 68, us 69, us 70, us 71, us 72, us 73, us 74, us 75, us 76, us 77, us 78, us 79, us 80, us 81, us 82, us 83, us 84, us 85, us 86, us 87, us 88, us 89, us 90, us 91, us 92, us 93, us 94, us 95, us 96, us 97, us 98, us 99, us 100, us 101, us 102, us 103, us 104, us 105, us 106, us 107, us 108, us 109, us 110, us 111, us 112, us 113, us 114, us 115, us 116, us 117, us 118, us 119, us 120, us 121, us 122, us 123, us 124, us 125, us 126, us 127, us 128, us 129, us 130, us 131, us 132, us 133, us 134, us 135, .sc (.int .u8 a.d), us 137, us 138, us 139, us 140, us 141, us 142, us 143, us 144, us 145, us 146, us 147, us 148, us 149, us 150, us 151, us 152, us 153, us 154, us 155, us 156, us 157, us 158, us 159, us 160, us 161, us 162, us 163, us 164, us 165, us 166, us 167, us 168, us 169, us 170, us 171, us 172, us 173, us 174, us 175, us 176, us 177, us 178, us 179, us 180, us 181, us 182, us 183, us 184, us 185, us 186, us 187, us 188, us 189, us 190, us 191, us 192, us 193, us 194, us 195, us 196, us 197, us 198, us 199, us 200, us 201, us 202, us 203, us 204, us 205, us 206, us 207, us 208, us 209, us 210, us 211, us 212, us 213, us 214, us 215, us 216, us 217, us 218, us 219, us 220, us 221, us 222, us 223, us 224, us 225, us 226, us 227, us 228, us 229, us 230, us 231, us 232, us 233, us 234, us 235, us 236, us 237, us 238, us 239, us 240, us 241, us 242, us 243, us 244, us 245, us 246, us 247, us 248, us 249, us 250, us 251, us 252, us 253, us 254, us 255, us 256, us 257, us 258, us 259, us 260, us 261, us 262, us 263, us 264, us 265, us 266] from rfl]
  unfold act8
  repeat' (first
    | (refine K_ops ?_; first
      | refine W_fastB rfl ?_
      | refine W_nil ?_
      | (refine K_call ?_; first
        | (refine W_callsN 12 rfl (w12 (v := v) (id := id) (x := (AS.getD (k : Int).toNat actE.dflt).x) (y := (AS.getD (k : Int).toNat actE.dflt).y) hs hG ok (hA ▸ ax) (hA ▸ ay)) rfl ?_; rintro _ hX ⟨rfl, hs⟩; refine W_norm rfl ?_)
        | (refine W_callsN 19 rfl (w19 (v := v) (id := id) (x := (AS.getD (k : Int).toNat actE.dflt).x) (y := (AS.getD (k : Int).toNat actE.dflt).y) hs hG ok) rfl ?_; rintro _ hX ⟨rfl, hs⟩; refine W_norm rfl ?_)
        | (refine W_callsN 15 rfl (w15 (v := v) (id := id) hs hG.ln ok.l.len) rfl ?_; rintro _ hX ⟨rfl, ma, ca, hs⟩; replace hs := hs.freeze 0 rfl; (try simp only [List.eraseIdx_cons_succ, List.eraseIdx_cons_zero, List.eraseIdx_zero, List.tail_cons] at hs); refine W_norm rfl ?_)
        | (refine W_callsN 17 rfl (w17 (v := v) (id := id) hs) rfl ?_; rintro _ hX ⟨rfl, hs⟩; refine W_norm rfl ?_)
        | (refine W_callsN 13 rfl (w13 (v := v) (id := id) (q := (AS.getD (k : Int).toNat actE.dflt).t) (back := decide ((AS.getD (k : Int).toNat actE.dflt).x < 0)) hs hG ok (hA ▸ al)) rfl ?_; rintro _ hX ⟨rfl, hs⟩; refine W_norm rfl ?_)
      )
      | (refine K_index ?_; first
        | (refine W_indexR rfl rfl (by assumption) rfl ⟨(by first | omega | (simp only [List.length_set, List.length_append, List.length_take, List.length_drop, List.length_replicate, List.length_cons, List.length_nil, decs_length, List.length_map]; omega)), (by first | omega | (simp only [List.length_set, List.length_append, List.length_take, List.length_drop, List.length_replicate, List.length_cons, List.length_nil, decs_length, List.length_map]; omega))⟩ ?_; intro _ _ _; refine W_norm rfl ?_)
      )
      | (refine K_load ?_; first
        | (refine W_loadRF hs rfl (by assumption) rfl ?_; refine W_norm rfl ?_)
      )
    )
    | (refine K_code ?_; first
      | refine W_seq ?_
      | refine W_ops ?_
      | (refine W_cond rfl (fun hc => ?_) (fun hc => ?_) <;> (try rw [hc]) <;> (try simp only [decide_eq_true_eq, decide_eq_false_iff_not, beq_iff_eq, beq_eq_false_iff_ne, bne_iff_ne, bne_eq_false_iff_eq, Bool.not_eq_true', Bool.not_eq_false', Int.not_lt, Int.not_le, ne_eq, reduceCtorEq, not_true_eq_false, not_false_eq_true, Decidable.not_not] at hc) <;> (try (exfalso; omega)) <;> (try refine W_norm rfl ?_))
      | refine W_skip ?_
      | refine W_block ?_
      | refine W_draw rfl ?_
    )
    | refine seqK_n ?_
    | refine blockK_n ?_)
  · rw [← hA] at hs
    rw [actV0 (by assumption)]
    exact ⟨rfl, _, ⟨R, mk, rfl, fun _ _ k => k, hG.toV _ _, hs⟩, EnvB.of rfl⟩
  · rw [← hA] at hs
    rw [actV1 (by assumption)]
    exact ⟨rfl, _, ⟨R, mk, rfl, fun _ _ k => k, hG.toV _ _, hs⟩, EnvB.of rfl⟩
  · rw [actV2 (by assumption)]
    exact ⟨rfl, _, ⟨_, _, rfl, Ro.le_add _ _, hG.mark, hs⟩, EnvB.of rfl⟩
  · rw [actV3 (by assumption)]
    exact ⟨rfl, _, ⟨R, _, rfl, fun _ _ k => k, hG.clear, hs⟩, EnvB.of rfl⟩
  · rw [← hA] at hs
    rw [actV4 (by assumption)]
    exact ⟨rfl, _, ⟨R, mk, rfl, fun _ _ k => k, hG.find _ _, hs⟩, EnvB.of rfl⟩
  · rw [actV5 (by assumption) (by assumption) (by assumption) (by assumption) (by assumption)]
    exact ⟨rfl, _, ⟨R, mk, rfl, fun _ _ k => k, hG, hs⟩, EnvB.of rfl⟩
abbrev two8 : MCode := (.seq (.ops m8_r26) (.block 8 (.loop m8_l27)))
theorem w8_two {R : Ro} {M : List Hp} {h : Heap} {e : List AV} {ida idb : Nat} {ua ub mka mkb va : SV} {v : Vw} {Ga Gb : List LnC} {AS : List ActV} {k : Nat} {a : ActV} (hA : a = AS.getD (k : Int).toNat actE.dflt) (he : EnvIs 267 [(2, .sc va), (9, .sc (.ptr ida 0)), (11, .sc (.ptr idb 0)), (15, i64 (k : Int))] e) (hs : Sep R (vwO idb ub mkb v :: vwO ida ua mka v :: M) h) (hGa : VwR R ua mka v Ga) (hGb : VwR R ub mkb v Gb) (ok : OkV v) (hva : SlR actE R va AS) (hk : k < AS.length) (ha : okA a) :
    W DD (.code (two8) e h) (fun x e' h' => x = .normal ∧ ∃ sl, (∃ (R' : Ro) (mka' mkb' : SV), sl = [] ∧ R.le R' ∧ VwR R' ua mka' (actV v a) Ga ∧ VwR R' ub mkb' (actV v a) Gb ∧ Sep R' (vwO idb ub mkb' (actV v a) :: vwO ida ua mka' (actV v a) :: M) h') ∧ EnvB e [17, 124, 125, 126, 127, 128, 129, 130, 131, 132, 133, 134, 135, 136, 137, 138, 139, 140, 141, 142, 143, 144, 145, 146, 147, 148, 149, 150, 151, 152, 153, 154, 155, 156, 157, 158, 159, 160, 161, 162, 163, 164, 165, 166, 167, 168, 169, 170, 171, 172, 173, 174, 175, 176, 177, 178, 179, 180, 181, 182, 183, 184, 185, 186, 187, 188] [0, 1, 2, 3, 4, 5, 6, 7, 8, 9, 10, 11, 12, 13, 14, 15, 16, 17, 18, 19, 20, 21, 22, 23, 24, 25, 26, 27, 28, 29, 30, 31, 32, 33, 34, 35, 36, 37, 38, 39, 40, 41, 42, 43, 44, 45, 46, 47, 48, 49, 50, 51, 52, 53, 54, 55, 56, 57, 58, 59, 60, 61, 62, 63, 64, 65, 66, 67, 68, 69, 70, 71, 72, 73, 74, 75, 76, 77, 78, 79, 80, 81, 82, 83, 84, 85, 86, 87, 88, 89, 90, 91, 92, 93, 94, 95, 96, 97, 98, 99, 100, 101, 102, 103, 104, 105, 106, 107, 108, 109, 110, 111, 112, 113, 114, 115, 116, 117, 118, 119, 120, 121, 122, 123, 124, 125, 126, 127, 128, 129, 130, 131, 132, 133, 134, 135, 136, 137, 138, 139, 140, 141, 142, 143, 144, 145, 146, 147, 148, 149, 150, 151, 152, 153, 154, 155, 156, 157, 158, 159, 160, 161, 162, 163, 164, 165, 166, 167, 168, 169, 170, 171, 172, 173, 174, 175, 176, 177, 178, 179, 180, 181, 182, 183, 184, 185, 186, 187, 188, 189, 190, 191, 192, 193, 194, 195, 196, 197, 198, 199, 200, 201, 202, 203, 204, 205, 206, 207, 208, 209, 210, 211, 212, 213, 214, 215, 216, 217, 218, 219, 220, 221, 222, 223, 224, 225, 226, 227, 228, 229, 230, 231, 232, 233, 234, 235, 236, 237, 238, 239, 240, 241, 242, 243, 244, 245, 246, 247, 248, 249, 250, 251, 252, 253, 254, 255, 256, 257, 258, 259, 260, 261, 262, 263, 264, 265, 266] sl e') := by
  have hln := hva.ln
  obtain ⟨us, rfl⟩ := he.list
  rw [show mkE us [(2, .sc va), (9, .sc (.ptr ida 0)), (11, .sc (.ptr idb 0)), (15, i64 (k : Int))] 0 267 = [us 0, us 1, .sc va, us 3, us 4, us 5, us 6, us 7, us 8, .sc (.ptr ida 0), us 10, .sc (.ptr idb 0), us 12, us 13, us 14, i64 (k : Int), us 16, us 17, us 18, us 19, us 20, us 21, us 22, us 23, us 24, us 25, us 26, us 27, us 28, us 29, us 30, us 31, us 32, us 33, us 34, us 35, us 36, us 37, us 38, us 39, us 40, us 41, us 42, us 43, us 44, us 45, us 46, us 47, us 48, us 49, us 50, us 51, us 52, us 53, us 54, us 55, us 56, us 57, us 58, us 59, us 60, us 61, us 62, us 63, us 64, us 65, us 66, us 67, us 68, us 69, us 70, us 71, us 72, us 73, us 74, us 75, us 76, us 77, us 78, us 79, us 80, us 81, us 82, us 83, us 84, us 85, us 86, us 87, us 88, us 89, us 90, us 91, us 92, us 93, us 94, us 95, us 96, us 97, us 98, us 99, us 100, us 101, us 102, us 103, us 104, us 105, us 106, us 107, us 108, us 109, us 110, us 111, us 112, us 113, us 114, us 115, us 116, us 117, us 118, us 119, us 120, us 121, us 122, us 123, us 124, us 125, us 126, us 127, us 128, us 129, us 130, us 131, us 132, us 133, us 134, us 135, us 136, us 137, us 138, us 139, us 140, us 141, us 142, us 143, us 144, us 145, us 146, us 147, us 148, us 149, us 150, us 151, us 152, us 153, us 154, us 155, us 156, us 157, us 158, us 159, us 160, us 161, us 162, us 163, us 164, us 165, us 166, us 167, us 168, us 169, us 170, us 171, us 172, us 173, us 174, us 175, us 176, us 177, us 178, us 179, us 180, us 181, us 182, us 183, us 184, us 185, us 186, us 187, us 188, us 189, us 190, us 191, us 192, us 193, us 194, us 195, us 196, us 197, us 198, us 199, us 200, us 201, us 202, us 203, us 204, us 205, us 206, us 207, us 208, us 209, us 210, us 211, us 212, us 213, us 214, us 215, us 216, us 217, us 218, us 219, us 220, us 221, us 222, us 223, us 224, us 225, us 226, us 227, us 228, us 229, us 230, us 231, us 232, us 233, us 234, us 235, us 236, us 237, us 238, us 239, us 240, us 241, us 242, us 243, us 244, us 245, us 246, us 247, us 248, us 249, us 250, us 251, us 252, us 253, us 254, us 255, us 256, us 257, us 258, us 259, us 260, us 261, us 262, us 263, us 264, us 265, us 266] from rfl]
  unfold two8
  repeat' (first
    | (refine K_ops ?_; first
      | refine W_fastB rfl ?_
      | refine W_nil ?_
      | (refine W_lenL rfl (by first | assumption | exact SlR.ln (by assumption) | exact AccS.ln (by assumption) | exact OwnS.ln (by assumption) | exact VwO.ln (by assumption) | exact OwnP.ln (by assumption) | exact Len.sl) ?_; refine W_norm rfl ?_)
      | (refine K_bslice ?_; first
        | (refine W_buildS2 svEl hs rfl rfl ?_; clear hs; intro _ _ _ _ hs; try simp only [cell_back, attr_back, List.set_cons_zero, List.set_cons_succ, List.eraseIdx_cons_succ, List.eraseIdx_zero, List.tail_cons, List.nil_append, List.cons_append] at hs; refine W_norm rfl ?_)
      )
    )
    | (refine K_code ?_; first
      | refine W_seq ?_
      | refine W_ops ?_
      | refine W_block ?_
    )
    | refine seqK_n ?_)
  rename_i up cp _ hup
  replace hs := hs.freeze 0 rfl
  simp only [List.eraseIdx_cons_zero, List.eraseIdx_zero, List.tail_cons] at hs
  obtain ⟨R1, hRN1, hUP, hVa, hVb, hs⟩ : ∃ R1 : Ro, R.le R1 ∧ SlR svEl R1 up [.ptr ida 0, .ptr idb 0] ∧ VwR R1 ua mka v Ga ∧ VwR R1 ub mkb v Gb ∧ Sep R1 (vwO idb ub mkb v :: vwO ida ua mka v :: M) _ := ⟨_, Ro.le_add _ _, hup.add R, hGa.more, hGb.more, hs⟩
  clear hup
  refine W_loopB [17, 128, 129, 130, 131, 132, 133, 134, 135, 136, 137, 138, 139, 140, 141, 142, 143, 144, 145, 146, 147, 148, 149, 150, 151, 152, 153, 154, 155, 156, 157, 158, 159, 160, 161, 162, 163, 164, 165, 166, 167, 168, 169, 170, 171, 172, 173, 174, 175, 176, 177, 178, 179, 180, 181, 182, 183, 184, 185, 186, 187, 188] [0, 1, 2, 3, 4, 5, 6, 7, 8, 9, 10, 11, 12, 13, 14, 15, 16, 17, 18, 19, 20, 21, 22, 23, 24, 25, 26, 27, 28, 29, 30, 31, 32, 33, 34, 35, 36, 37, 38, 39, 40, 41, 42, 43, 44, 45, 46, 47, 48, 49, 50, 51, 52, 53, 54, 55, 56, 57, 58, 59, 60, 61, 62, 63, 64, 65, 66, 67, 68, 69, 70, 71, 72, 73, 74, 75, 76, 77, 78, 79, 80, 81, 82, 83, 84, 85, 86, 87, 88, 89, 90, 91, 92, 93, 94, 95, 96, 97, 98, 99, 100, 101, 102, 103, 104, 105, 106, 107, 108, 109, 110, 111, 112, 113, 114, 115, 116, 117, 118, 119, 120, 121, 122, 123, 124, 125, 126, 127, 128, 129, 130, 131, 132, 133, 134, 135, 136, 137, 138, 139, 140, 141, 142, 143, 144, 145, 146, 147, 148, 149, 150, 151, 152, 153, 154, 155, 156, 157, 158, 159, 160, 161, 162, 163, 164, 165, 166, 167, 168, 169, 170, 171, 172, 173, 174, 175, 176, 177, 178, 179, 180, 181, 182, 183, 184, 185, 186, 187, 188, 189, 190, 191, 192, 193, 194, 195, 196, 197, 198, 199, 200, 201, 202, 203, 204, 205, 206, 207, 208, 209, 210, 211, 212, 213, 214, 215, 216, 217, 218, 219, 220, 221, 222, 223, 224, 225, 226, 227, 228, 229, 230, 231, 232, 233, 234, 235, 236, 237, 238, 239, 240, 241, 242, 243, 244, 245, 246, 247, 248, 249, 250, 251, 252, 253, 254, 255, 256, 257, 258, 259, 260, 261, 262, 263, 264, 265, 266] (fun n' sl h' => ∃ (j : Nat) (R' : Ro) (Va Vb : Vw) (mka mkb : SV), sl = [(127, .sc (.int .i64 2)), (128, .sc (.int .i64 (j : Int)))] ∧ n' = 2 - j ∧ j ≤ 2 ∧ R1.le R' ∧ ((j = 0 ∧ v = Va ∧ v = Vb) ∨ (j = 1 ∧ actV v a = Va ∧ v = Vb) ∨ (j = 2 ∧ actV v a = Va ∧ actV v a = Vb)) ∧ VwR R' ua mka Va Ga ∧ VwR R' ub mkb Vb Gb ∧ Sep R' (vwO idb ub mkb Vb :: vwO ida ua mka Va :: M) h') ?_ ?_
  · refine ⟨_, _, ⟨0, R1, v, v, mka, mkb, rfl, rfl, Nat.zero_le _, fun _ _ k => k, .inl ⟨rfl, rfl, rfl⟩, hVa, hVb, hs⟩, EnvB.of rfl⟩
  clear hs hVa hVb
  rintro _ _ us _ h6 ⟨j, R', Va, Vb, mka, mkb, rfl, rfl, hj, hRN, hjj, hVa, hVb, hs⟩ he
  refine W_spell he rfl ?_
  clear he
  unfold m8_l27
  have hva' : SlR actE R' va AS := hva.mono (fun _ _ k => hRN _ _ (hRN1 _ _ k))
  replace hUP := hUP.mono hRN
  rcases hjj with ⟨rfl, rfl, rfl⟩ | ⟨rfl, rfl, rfl⟩ | ⟨rfl, rfl, rfl⟩
  · repeat' (first
      | (refine K_ops ?_; first
        | refine W_fastB rfl ?_
        | refine W_nil ?_
        | (refine K_index ?_; first
          | (refine W_indexR rfl rfl (by assumption) rfl ⟨(by first | omega | (simp only [List.length_set, List.length_append, List.length_take, List.length_drop, List.length_replicate, List.length_cons, List.length_nil, decs_length, List.length_map]; omega)), (by first | omega | (simp only [List.length_set, List.length_append, List.length_take, List.length_drop, List.length_replicate, List.length_cons, List.length_nil, decs_length, List.length_map]; omega))⟩ ?_; intro _ _ _; refine W_norm rfl ?_)
        )
        | (refine K_load ?_; first
          | (refine W_loadR hs rfl (by assumption) rfl ?_; refine W_norm rfl ?_)
        )
      )
      | (refine K_code ?_; first
        | ((refine (w8_act (M := vwO idb ub mkb v :: M) (v := v) (id := ida) (G := Ga) (a := AS.getD (k : Int).toNat actE.dflt) rfl ⟨rfl, rfl, rfl, rfl, rfl, trivial⟩ (hs.front 1 rfl) hVa ok hva' hk (hA ▸ ha)).mono ?_))
        | refine W_seq ?_
        | refine W_ops ?_
        | refine W_cond_t rfl ?_
        | refine W_skip ?_
        | refine W_block ?_
      )
      | refine seqK_n ?_)
    rw [← hA]
    clear hs hVa
    rintro _ _ h7 ⟨rfl, _, ⟨R2, mk2, rfl, hle2, hVa, hs⟩, us3, he⟩
    refine blockK_n ?_
    refine seqK_n ?_
    refine W_spell he rfl ?_
    clear he
    repeat' (first
      | (refine K_ops ?_; first
        | refine W_fastB rfl ?_
        | refine W_nil ?_
        | (refine K_bin ?_; first
          | (refine W_add rfl rfl (IntWalk.i64_in _ (by first | omega | (simp only [List.length_set, List.length_append, List.length_take, List.length_drop, List.length_replicate, List.length_cons, List.length_nil, decs_length, List.length_map]; omega))) ?_; refine W_norm rfl ?_)
        )
      )
      | (refine K_code ?_; first
        | refine W_ops ?_
      )
      | refine invK_n ?_)
    refine ⟨_, ?_, _, ⟨1, R2, actV v a, v, mk2, mkb, rfl, rfl, by omega, fun _ _ k => hle2 _ _ (hRN _ _ k), .inr (.inl ⟨rfl, rfl, rfl⟩), hVa, hVb.mono hle2, hs.front 1 rfl⟩, EnvB.of rfl⟩
    omega
  · repeat' (first
      | (refine K_ops ?_; first
        | refine W_fastB rfl ?_
        | refine W_nil ?_
        | (refine K_index ?_; first
          | (refine W_indexR rfl rfl (by assumption) rfl ⟨(by first | omega | (simp only [List.length_set, List.length_append, List.length_take, List.length_drop, List.length_replicate, List.length_cons, List.length_nil, decs_length, List.length_map]; omega)), (by first | omega | (simp only [List.length_set, List.length_append, List.length_take, List.length_drop, List.length_replicate, List.length_cons, List.length_nil, decs_length, List.length_map]; omega))⟩ ?_; intro _ _ _; refine W_norm rfl ?_)
        )
        | (refine K_load ?_; first
          | (refine W_loadR hs rfl (by assumption) rfl ?_; refine W_norm rfl ?_)
        )
      )
      | (refine K_code ?_; first
        | ((refine (w8_act (M := vwO ida ua mka (actV v a) :: M) (v := v) (id := idb) (G := Gb) (a := AS.getD (k : Int).toNat actE.dflt) rfl ⟨rfl, rfl, rfl, rfl, rfl, trivial⟩ hs hVb ok hva' hk (hA ▸ ha)).mono ?_))
        | refine W_seq ?_
        | refine W_ops ?_
        | refine W_cond_t rfl ?_
        | refine W_skip ?_
        | refine W_block ?_
      )
      | refine seqK_n ?_)
    rw [← hA]
    clear hs hVb
    rintro _ _ h7 ⟨rfl, _, ⟨R2, mk2, rfl, hle2, hVb, hs⟩, us3, he⟩
    refine blockK_n ?_
    refine seqK_n ?_
    refine W_spell he rfl ?_
    clear he
    repeat' (first
      | (refine K_ops ?_; first
        | refine W_fastB rfl ?_
        | refine W_nil ?_
        | (refine K_bin ?_; first
          | (refine W_add rfl rfl (IntWalk.i64_in _ (by first | omega | (simp only [List.length_set, List.length_append, List.length_take, List.length_drop, List.length_replicate, List.length_cons, List.length_nil, decs_length, List.length_map]; omega))) ?_; refine W_norm rfl ?_)
        )
      )
      | (refine K_code ?_; first
        | refine W_ops ?_
      )
      | refine invK_n ?_)
    refine ⟨_, ?_, _, ⟨2, R2, actV v a, actV v a, mka, mk2, rfl, rfl, by omega, fun _ _ k => hle2 _ _ (hRN _ _ k), .inr (.inr ⟨rfl, rfl, rfl⟩), hVa.mono hle2, hVb, hs⟩, EnvB.of rfl⟩
    omega
  · repeat' (first
      | (refine K_ops ?_; first
        | refine W_fastB rfl ?_
        | refine W_nil ?_
      )
      | (refine K_code ?_; first
        | refine W_seq ?_
        | refine W_ops ?_
        | refine W_cond_f rfl ?_
        | refine W_exit ?_
      )
      | refine seqK_n ?_
      | refine seqK_x ?_
      | refine blockK_e ?_
      | refine invK_x ?_)
    exact ⟨rfl, _, ⟨R', mka, mkb, rfl, fun _ _ k => hRN _ _ (hRN1 _ _ k), hVa, hVb, hs⟩, EnvB.of rfl⟩
end Go.Proofs.YtbkhjpclnfljbaaDoor
/- Views: the law CopyStill, what is written into lines. -/
set_option linter.unusedSimpArgs false
set_option linter.unusedVariables false
set_option maxHeartbeats 1000000
set_option maxRecDepth 100000
namespace Go.Proofs.YtbkhjpclnfljbaaDoor
open Go Go.Jx

theorem perm_out {α : Type} (l : List α) (i : Nat) (hi : i < l.length) : (l[i]'hi :: l.eraseIdx i).Perm l := by
  rw [List.eraseIdx_eq_take_drop_succ]
  have e : l = l.take i ++ l[i]'hi :: l.drop (i + 1) := by
    rw [← List.drop_eq_getElem_cons hi, List.take_append_drop]
  conv => rhs; rw [e]
  exact List.perm_middle.symm
theorem sep_out {R : Ro} {A : Hp} {M : List Hp} {h : Heap} {X : List (LnH × Hp)} {i : Nat} (hs : Sep R (A :: (X.map Prod.snd).flatten :: M) h) (hi : i < X.length) : Sep R (A :: (X[i]'hi).2 :: ((X.map Prod.snd).eraseIdx i).flatten :: M) h := by
  have hi2 : i < (X.map Prod.snd).length := by rw [List.length_map]; exact hi
  have p := (perm_out _ i hi2).flatten
  refine hs.perm ?_
  simp only [List.flatten_cons, List.getElem_map] at p ⊢
  rw [← List.append_assoc (X[i]'hi).2]
  exact List.Perm.append_left _ (List.Perm.append_right _ p.symm)
theorem sep_in {R : Ro} {A c : Hp} {M : List Hp} {h : Heap} {X : List (LnH × Hp)} {i : Nat} {y : LnH} (hs : Sep R (A :: c :: ((X.map Prod.snd).eraseIdx i).flatten :: M) h) (hi : i < X.length) : Sep R (A :: ((X.set i (y, c)).map Prod.snd).flatten :: M) h := by
  have hi2 : i < ((X.set i (y, c)).map Prod.snd).length := by rw [List.length_map, List.length_set]; exact hi
  have p := (perm_out _ i hi2).flatten
  have e1 : ((X.set i (y, c)).map Prod.snd).eraseIdx i = (X.map Prod.snd).eraseIdx i := by
    rw [List.map_set, List.eraseIdx_set_eq]
  refine hs.perm ?_
  rw [e1] at p
  simp only [List.flatten_cons, List.getElem_map, List.getElem_set_self] at p ⊢
  rw [← List.append_assoc c]
  exact List.Perm.append_left _ (List.Perm.append_right _ p)
theorem ownx_at {X : List (LnH × Hp)} {L : List Ln} (hO : OwnX X L) {i : Nat} (hi : i < X.length) : ∃ l, L[i]? = some l ∧ AccS cellE 71 (X[i]'hi).1.v l.cells (X[i]'hi).2 ∧ (X[i]'hi).1.j = l.joined ∧ (X[i]'hi).1.s = l.short :=
  LR.get hO (List.getElem?_eq_getElem hi)
/-- Lines of at most so many cells. -/
def ShortL (L : List Ln) : Prop := ∀ l ∈ L, l.cells.length ≤ 1000
theorem ShortL.set {L : List Ln} (h : ShortL L) (i : Nat) {l : Ln} (hl : l.cells.length ≤ 1000) : ShortL (L.set i l) := fun m hm => by
  rcases List.mem_or_eq_of_mem_set hm with hm | rfl
  · exact h m hm
  · exact hl

theorem map_fst_set {X : List (LnH × Hp)} {k : Nat} {y : LnH} {c : Hp} : (X.set k (y, c)).map Prod.fst = (X.map Prod.fst).set k y := by rw [List.map_set]
theorem map_snd_same {X : List (LnH × Hp)} {k : Nat} (hk : k < X.length) {y : LnH} : (X.set k (y, (X[k]'hk).2)).map Prod.snd = X.map Prod.snd := by
  rw [List.map_set]
  exact set_same (by rw [List.getElem?_map, List.getElem?_eq_getElem hk]; rfl)
abbrev mine8 : MCode := (.seq (.ops m8_r13) (.block 2 (.loop m8_l14)))
theorem w8_mine {R : Ro} {M : List Hp} {h : Heap} {e : List AV} {u : SV} {c : Hp} {X : List (LnH × Hp)} {L : List Ln} (he : EnvIs 267 [(7, .sc u)] e) (hs : Sep R (c :: (X.map Prod.snd).flatten :: M) h) (hU : AccS lnE 27 u (X.map Prod.fst) c) (hO : OwnX X L) (hSL : ShortL L) (hXn : X.length ≤ 1000) :
    W DD (.code (mine8) e h) (fun x e' h' => x = .normal ∧ ∃ sl, (sl = [] ∧ Sep R M h') ∧ EnvB e [13, 14, 84, 85, 86, 87, 88, 89, 90, 91, 92, 93, 94, 95, 96, 97, 98, 99, 100, 101, 102, 103, 104, 105, 106, 107, 108, 109, 110, 111, 112, 113, 114, 115, 116, 117] [0, 1, 2, 3, 4, 5, 6, 7, 8, 9, 10, 11, 12, 13, 14, 15, 16, 17, 18, 19, 20, 21, 22, 23, 24, 25, 26, 27, 28, 29, 30, 31, 32, 33, 34, 35, 36, 37, 38, 39, 40, 41, 42, 43, 44, 45, 46, 47, 48, 49, 50, 51, 52, 53, 54, 55, 56, 57, 58, 59, 60, 61, 62, 63, 64, 65, 66, 67, 68, 69, 70, 71, 72, 73, 74, 75, 76, 77, 78, 79, 80, 81, 82, 83, 84, 85, 86, 87, 88, 89, 90, 91, 92, 93, 94, 95, 96, 97, 98, 99, 100, 101, 102, 103, 104, 105, 106, 107, 108, 109, 110, 111, 112, 113, 114, 115, 116, 117, 118, 119, 120, 121, 122, 123, 124, 125, 126, 127, 128, 129, 130, 131, 132, 133, 134, 135, 136, 137, 138, 139, 140, 141, 142, 143, 144, 145, 146, 147, 148, 149, 150, 151, 152, 153, 154, 155, 156, 157, 158, 159, 160, 161, 162, 163, 164, 165, 166, 167, 168, 169, 170, 171, 172, 173, 174, 175, 176, 177, 178, 179, 180, 181, 182, 183, 184, 185, 186, 187, 188, 189, 190, 191, 192, 193, 194, 195, 196, 197, 198, 199, 200, 201, 202, 203, 204, 205, 206, 207, 208, 209, 210, 211, 212, 213, 214, 215, 216, 217, 218, 219, 220, 221, 222, 223, 224, 225, 226, 227, 228, 229, 230, 231, 232, 233, 234, 235, 236, 237, 238, 239, 240, 241, 242, 243, 244, 245, 246, 247, 248, 249, 250, 251, 252, 253, 254, 255, 256, 257, 258, 259, 260, 261, 262, 263, 264, 265, 266] sl e') := by
  obtain ⟨N, hN⟩ : ∃ N, X.length = N := ⟨_, rfl⟩
  have hNb : N ≤ 1000 := by omega
  have hln := hU.ln
  obtain ⟨us, rfl⟩ := he.list
  rw [show mkE us [(7, .sc u)] 0 267 = [us 0, us 1, us 2, us 3, us 4, us 5, us 6, .sc u, us 8, us 9, us 10, us 11, us 12, us 13, us 14, us 15, us 16, us 17, us 18, us 19, us 20, us 21, us 22, us 23, us 24, us 25, us 26, us 27, us 28, us 29, us 30, us 31, us 32, us 33, us 34, us 35, us 36, us 37, us 38, us 39, us 40, us 41, us 42, us 43, us 44, us 45, us 46, us 47, us 48, us 49, us 50, us 51, us 52, us 53, us 54, us 55, us 56, us 57, us 58, us 59, us 60, us 61, us 62, us 63, us 64, us 65, us 66, us 67, us 68, us 69, us 70, us 71, us 72, us 73, us 74, us 75, us 76, us 77, us 78, us 79, us 80, us 81, us 82, us 83, us 84, us 85, us 86, us 87, us 88, us 89, us 90, us 91, us 92, us 93, us 94, us 95, us 96, us 97, us 98, us 99, us 100, us 101, us 102, us 103, us 104, us 105, us 106, us 107, us 108, us 109, us 110, us 111, us 112, us 113, us 114, us 115, us 116, us 117, us 118, us 119, us 120, us 121, us 122, us 123, us 124, us 125, us 126, us 127, us 128, us 129, us 130, us 131, us 132, us 133, us 134, us 135, us 136, us 137, us 138, us 139, us 140, us 141, us 142, us 143, us 144, us 145, us 146, us 147, us 148, us 149, us 150, us 151, us 152, us 153, us 154, us 155, us 156, us 157, us 158, us 159, us 160, us 161, us 162, us 163, us 164, us 165, us 166, us 167, us 168, us 169, us 170, us 171, us 172, us 173, us 174, us 175, us 176, us 177, us 178, us 179, us 180, us 181, us 182, us 183, us 184, us 185, us 186, us 187, us 188, us 189, us 190, us 191, us 192, us 193, us 194, us 195, us 196, us 197, us 198, us 199, us 200, us 201, us 202, us 203, us 204, us 205, us 206, us 207, us 208, us 209, us 210, us 211, us 212, us 213, us 214, us 215, us 216, us 217, us 218, us 219, us 220, us 221, us 222, us 223, us 224, us 225, us 226, us 227, us 228, us 229, us 230, us 231, us 232, us 233, us 234, us 235, us 236, us 237, us 238, us 239, us 240, us 241, us 242, us 243, us 244, us 245, us 246, us 247, us 248, us 249, us 250, us 251, us 252, us 253, us 254, us 255, us 256, us 257, us 258, us 259, us 260, us 261, us 262, us 263, us 264, us 265, us 266] from rfl]
  unfold mine8
  repeat' (first
    | (refine K_ops ?_; first
      | refine W_fastB rfl ?_
      | refine W_nil ?_
    )
    | (refine K_code ?_; first
      | refine W_seq ?_
      | refine W_ops ?_
      | refine W_block ?_
    )
    | refine seqK_n ?_)
  refine W_loopB [13, 14, 84, 85, 86, 87, 88, 89, 90, 91, 92, 93, 94, 95, 96, 97, 98, 99, 100, 101, 102, 103, 104, 105, 106, 107, 108, 109, 110, 111, 112, 113, 114, 115, 116, 117] [0, 1, 2, 3, 4, 5, 6, 7, 8, 9, 10, 11, 12, 13, 14, 15, 16, 17, 18, 19, 20, 21, 22, 23, 24, 25, 26, 27, 28, 29, 30, 31, 32, 33, 34, 35, 36, 37, 38, 39, 40, 41, 42, 43, 44, 45, 46, 47, 48, 49, 50, 51, 52, 53, 54, 55, 56, 57, 58, 59, 60, 61, 62, 63, 64, 65, 66, 67, 68, 69, 70, 71, 72, 73, 74, 75, 76, 77, 78, 79, 80, 81, 82, 83, 84, 85, 86, 87, 88, 89, 90, 91, 92, 93, 94, 95, 96, 97, 98, 99, 100, 101, 102, 103, 104, 105, 106, 107, 108, 109, 110, 111, 112, 113, 114, 115, 116, 117, 118, 119, 120, 121, 122, 123, 124, 125, 126, 127, 128, 129, 130, 131, 132, 133, 134, 135, 136, 137, 138, 139, 140, 141, 142, 143, 144, 145, 146, 147, 148, 149, 150, 151, 152, 153, 154, 155, 156, 157, 158, 159, 160, 161, 162, 163, 164, 165, 166, 167, 168, 169, 170, 171, 172, 173, 174, 175, 176, 177, 178, 179, 180, 181, 182, 183, 184, 185, 186, 187, 188, 189, 190, 191, 192, 193, 194, 195, 196, 197, 198, 199, 200, 201, 202, 203, 204, 205, 206, 207, 208, 209, 210, 211, 212, 213, 214, 215, 216, 217, 218, 219, 220, 221, 222, 223, 224, 225, 226, 227, 228, 229, 230, 231, 232, 233, 234, 235, 236, 237, 238, 239, 240, 241, 242, 243, 244, 245, 246, 247, 248, 249, 250, 251, 252, 253, 254, 255, 256, 257, 258, 259, 260, 261, 262, 263, 264, 265, 266] (fun n' sl h' => ∃ (k : Nat) (c : Hp) (X : List (LnH × Hp)) (L : List Ln), sl = [(13, .sc (.int .i64 (k : Int)))] ∧ n' = N - k ∧ k ≤ N ∧ X.length = N ∧ AccS lnE 27 u (X.map Prod.fst) c ∧ OwnX X L ∧ ShortL L ∧ Sep R (c :: (X.map Prod.snd).flatten :: M) h') ?_ ?_
  · refine ⟨_, _, ⟨0, c, X, L, rfl, rfl, Nat.zero_le _, hN, hU, hO, hSL, hs⟩, EnvB.of rfl⟩
  clear hs hU hO hSL hln hN
  rintro _ _ us _ h3 ⟨k, c, X, L, rfl, rfl, hk, hX, hU, hO, hSL, hs⟩ he
  refine W_spell he rfl ?_
  clear he
  unfold m8_l14
  have hXl : (X.map Prod.fst).length = N := by rw [List.length_map]; exact hX
  have hun := hU.ln
  by_cases hlt2 : k < N
  · have hkX : k < X.length := by omega
    obtain ⟨l, hl1, hl2, hl3, hl4⟩ := ownx_at hO hkX
    obtain ⟨idh, kdh, rfl, rfl, hkd⟩ := hU.pos (by omega)
    obtain ⟨y0, hy0⟩ : ∃ y0, y0 = (X[k]'hkX).1 := ⟨_, rfl⟩
    have e1 : (X.map Prod.fst).getD (k : Int).toNat lnE.dflt = y0 := by
      rw [Int.toNat_natCast, List.getD_eq_getElem?_getD, List.getElem?_map, List.getElem?_eq_getElem hkX, hy0]; rfl
    repeat' (first
      | (refine K_ops ?_; first
        | refine W_fastB rfl ?_
        | refine W_nil ?_
        | (refine W_lenL rfl (by first | assumption | exact SlR.ln (by assumption) | exact AccS.ln (by assumption) | exact OwnS.ln (by assumption) | exact VwO.ln (by assumption) | exact OwnP.ln (by assumption) | exact Len.sl) ?_; refine W_norm rfl ?_)
        | (refine K_index ?_; first
          | (refine W_indexO rfl rfl ⟨(by first | omega | (simp only [List.length_set, List.length_append, List.length_take, List.length_drop, List.length_replicate, List.length_cons, List.length_nil, decs_length, List.length_map]; omega)), (by first | omega | (simp only [List.length_set, List.length_append, List.length_take, List.length_drop, List.length_replicate, List.length_cons, List.length_nil, decs_length, List.length_map]; omega))⟩ ?_; refine W_norm rfl ?_)
        )
        | (refine K_load ?_; first
          | (refine W_loadOF hs 0 rfl rfl rfl (by first | omega | (simp only [List.length_set, List.length_append, List.length_take, List.length_drop, List.length_replicate, List.length_cons, List.length_nil, decs_length, List.length_map]; omega)) rfl ?_; refine W_norm rfl ?_)
        )
        | (refine K_store ?_; first
          | (refine W_storeOF hs 0 rfl rfl rfl rfl rfl (by first | omega | (simp only [List.length_set, List.length_append, List.length_take, List.length_drop, List.length_replicate, List.length_cons, List.length_nil, decs_length, List.length_map]; omega)) (by first | decide | assumption) rfl rfl rfl rfl ?_; clear hs; intro _ hs; try simp only [cell_back, attr_back, List.set_cons_zero, List.set_cons_succ, List.eraseIdx_cons_succ, List.eraseIdx_zero, List.tail_cons, List.nil_append, List.cons_append] at hs; refine W_norm rfl ?_)
        )
      )
      | (refine K_code ?_; first
        | refine W_seq ?_
        | refine W_ops ?_
        | (refine W_cond rfl (fun hc => ?_) (fun hc => ?_) <;> (try rw [hc]) <;> (try simp only [decide_eq_true_eq, decide_eq_false_iff_not, beq_iff_eq, beq_eq_false_iff_ne, bne_iff_ne, bne_eq_false_iff_eq, Bool.not_eq_true', Bool.not_eq_false', Int.not_lt, Int.not_le, ne_eq, reduceCtorEq, not_true_eq_false, not_false_eq_true, Decidable.not_not] at hc) <;> (try (exfalso; omega)) <;> (try refine W_norm rfl ?_))
        | refine W_skip ?_
        | refine W_block ?_
      )
      | refine seqK_n ?_)
    obtain ⟨y1, hy1⟩ : ∃ y1 : LnH, y1 = ⟨y0.v, !y0.j, y0.s⟩ := ⟨_, rfl⟩
    have eh : (X.map Prod.fst).set (k : Int).toNat (lnE.dec [((X.map Prod.fst).getD (k : Int).toNat lnE.dflt).v, .bool (!((X.map Prod.fst).getD (k : Int).toNat lnE.dflt).j), .bool ((X.map Prod.fst).getD (k : Int).toNat lnE.dflt).s]) = (X.set k (y1, (X[k]'hkX).2)).map Prod.fst := by
      rw [e1, map_fst_set, Int.toNat_natCast, hy1]; rfl
    rw [eh] at hs
    obtain ⟨X1, hX1⟩ : ∃ X1, X1 = X.set k (y1, (X[k]'hkX).2) := ⟨_, rfl⟩
    have hsn : X1.map Prod.snd = X.map Prod.snd := by rw [hX1]; exact map_snd_same hkX
    rw [← hX1, ← hsn] at hs
    have hX1l : X1.length = X.length := by rw [hX1, List.length_set]
    have hk1 : k < X1.length := by omega
    have hXk : X1[k]'hk1 = (y1, (X[k]'hkX).2) := by
      subst hX1; exact List.getElem_set_self _
    replace hs := sep_out hs hk1
    rw [hXk] at hs
    have e2 : (X1.map Prod.fst).getD (k : Int).toNat lnE.dflt = y1 := by
      rw [Int.toNat_natCast, List.getD_eq_getElem?_getD, List.getElem?_map, List.getElem?_eq_getElem hk1, hXk]; rfl
    have hlc : l.cells.length ≤ 1000 := hSL l (List.mem_of_getElem? hl1)
    rw [← hy0] at hl2 hl3 hl4
    have hX1m : (X1.map Prod.fst).length = (X.map Prod.fst).length := by rw [List.length_map, List.length_map]; exact hX1l
    refine W_loopB [14, 100, 101, 102, 103, 104, 105, 106, 107, 108, 109, 110, 111, 112, 113, 114, 115, 116, 117] [0, 1, 2, 3, 4, 5, 6, 7, 8, 9, 10, 11, 12, 13, 14, 15, 16, 17, 18, 19, 20, 21, 22, 23, 24, 25, 26, 27, 28, 29, 30, 31, 32, 33, 34, 35, 36, 37, 38, 39, 40, 41, 42, 43, 44, 45, 46, 47, 48, 49, 50, 51, 52, 53, 54, 55, 56, 57, 58, 59, 60, 61, 62, 63, 64, 65, 66, 67, 68, 69, 70, 71, 72, 73, 74, 75, 76, 77, 78, 79, 80, 81, 82, 83, 84, 85, 86, 87, 88, 89, 90, 91, 92, 93, 94, 95, 96, 97, 98, 99, 100, 101, 102, 103, 104, 105, 106, 107, 108, 109, 110, 111, 112, 113, 114, 115, 116, 117, 118, 119, 120, 121, 122, 123, 124, 125, 126, 127, 128, 129, 130, 131, 132, 133, 134, 135, 136, 137, 138, 139, 140, 141, 142, 143, 144, 145, 146, 147, 148, 149, 150, 151, 152, 153, 154, 155, 156, 157, 158, 159, 160, 161, 162, 163, 164, 165, 166, 167, 168, 169, 170, 171, 172, 173, 174, 175, 176, 177, 178, 179, 180, 181, 182, 183, 184, 185, 186, 187, 188, 189, 190, 191, 192, 193, 194, 195, 196, 197, 198, 199, 200, 201, 202, 203, 204, 205, 206, 207, 208, 209, 210, 211, 212, 213, 214, 215, 216, 217, 218, 219, 220, 221, 222, 223, 224, 225, 226, 227, 228, 229, 230, 231, 232, 233, 234, 235, 236, 237, 238, 239, 240, 241, 242, 243, 244, 245, 246, 247, 248, 249, 250, 251, 252, 253, 254, 255, 256, 257, 258, 259, 260, 261, 262, 263, 264, 265, 266] (fun n' sl h' => ∃ (j : Nat) (C : List Cell) (ck : Hp), sl = [(14, .sc (.int .i64 (j : Int)))] ∧ n' = l.cells.length - j ∧ j ≤ l.cells.length ∧ C.length = l.cells.length ∧ AccS cellE 71 y0.v C ck ∧ Sep R ([(idh, .cells 27 kdh ((X1.map Prod.fst).flatMap lnE.enc))] :: ck :: ((X1.map Prod.snd).eraseIdx k).flatten :: M) h') ?_ ?_
    · refine ⟨_, _, ⟨0, l.cells, _, rfl, rfl, Nat.zero_le _, rfl, hl2, hs⟩, EnvB.of rfl⟩
    clear hs
    rintro _ _ us _ h5 ⟨j, C, ck, rfl, rfl, hj, hCl, hC, hs⟩ he
    refine W_spell he rfl ?_
    clear he
    unfold m8_l18
    have e3 : ((X1.map Prod.fst).getD (k : Int).toNat lnE.dflt).v = y0.v := by rw [e2, hy1]
    have hcn := hC.ln
    by_cases hlt3 : j < l.cells.length
    · obtain ⟨idc, kdc, hvv, rfl, hkc⟩ := hC.pos (by omega)
      rw [hvv] at e3
      repeat' (first
        | (refine K_ops ?_; first
          | refine W_fastB rfl ?_
          | refine W_nil ?_
          | (rw [e3])
          | (refine W_lenL rfl (by first | assumption | exact SlR.ln (by assumption) | exact AccS.ln (by assumption) | exact OwnS.ln (by assumption) | exact VwO.ln (by assumption) | exact OwnP.ln (by assumption) | exact Len.sl) ?_; refine W_norm rfl ?_)
          | (refine K_bin ?_; first
            | (refine W_add rfl rfl (IntWalk.i64_in _ (by first | omega | (simp only [List.length_set, List.length_append, List.length_take, List.length_drop, List.length_replicate, List.length_cons, List.length_nil, decs_length, List.length_map]; omega))) ?_; refine W_norm rfl ?_)
          )
          | (refine K_index ?_; first
            | (refine W_indexO rfl rfl ⟨(by first | omega | (simp only [List.length_set, List.length_append, List.length_take, List.length_drop, List.length_replicate, List.length_cons, List.length_nil, decs_length, List.length_map]; omega)), (by first | omega | (simp only [List.length_set, List.length_append, List.length_take, List.length_drop, List.length_replicate, List.length_cons, List.length_nil, decs_length, List.length_map]; omega))⟩ ?_; refine W_norm rfl ?_)
          )
          | (refine K_load ?_; first
            | (refine W_loadO hs 0 rfl rfl rfl (by first | omega | (simp only [List.length_set, List.length_append, List.length_take, List.length_drop, List.length_replicate, List.length_cons, List.length_nil, decs_length, List.length_map]; omega)) rfl ?_; refine W_norm rfl ?_)
          )
          | (refine K_store ?_; first
            | (refine W_storeO hs 1 rfl rfl rfl rfl rfl (by first | omega | (simp only [List.length_set, List.length_append, List.length_take, List.length_drop, List.length_replicate, List.length_cons, List.length_nil, decs_length, List.length_map]; omega)) (by first | decide | assumption) rfl ?_; clear hs; intro _ hs; try simp only [cell_back, attr_back, List.set_cons_zero, List.set_cons_succ, List.eraseIdx_cons_succ, List.eraseIdx_zero, List.tail_cons, List.nil_append, List.cons_append] at hs; refine W_norm rfl ?_)
          )
          | (refine W_buildN rfl ?_; refine W_norm rfl ?_)
        )
        | (refine K_code ?_; first
          | refine W_seq ?_
          | refine W_ops ?_
          | (refine W_cond rfl (fun hc => ?_) (fun hc => ?_) <;> (try rw [hc]) <;> (try simp only [decide_eq_true_eq, decide_eq_false_iff_not, beq_iff_eq, beq_eq_false_iff_ne, bne_iff_ne, bne_eq_false_iff_eq, Bool.not_eq_true', Bool.not_eq_false', Int.not_lt, Int.not_le, ne_eq, reduceCtorEq, not_true_eq_false, not_false_eq_true, Decidable.not_not] at hc) <;> (try (exfalso; omega)) <;> (try refine W_norm rfl ?_))
          | refine W_skip ?_
          | refine W_block ?_
        )
        | refine seqK_n ?_
        | refine blockK_n ?_
        | refine invK_n ?_)
      refine ⟨_, ?_, _, ⟨j + 1, (C.set (j : Int).toNat (cellE.dec [.int .i32 122, .int .u8 0, .int .u16 0, .int .u8 0, .int .u32 0, .int .u8 0, .int .u32 0])), _, rfl, rfl, ?_, ?_, ?_, hs⟩, EnvB.of rfl⟩
      · omega
      · omega
      · rw [List.length_set]; exact hCl
      · rw [hvv]; exact AccS.again hkc List.length_set
    · repeat' (first
        | (refine K_ops ?_; first
          | refine W_fastB rfl ?_
          | refine W_nil ?_
          | (rw [e3])
          | (refine W_lenL rfl (by first | assumption | exact SlR.ln (by assumption) | exact AccS.ln (by assumption) | exact OwnS.ln (by assumption) | exact VwO.ln (by assumption) | exact OwnP.ln (by assumption) | exact Len.sl) ?_; refine W_norm rfl ?_)
          | (refine K_bin ?_; first
            | (refine W_add rfl rfl (IntWalk.i64_in _ (by first | omega | (simp only [List.length_set, List.length_append, List.length_take, List.length_drop, List.length_replicate, List.length_cons, List.length_nil, decs_length, List.length_map]; omega))) ?_; refine W_norm rfl ?_)
          )
          | (refine K_index ?_; first
            | (refine W_indexO rfl rfl ⟨(by first | omega | (simp only [List.length_set, List.length_append, List.length_take, List.length_drop, List.length_replicate, List.length_cons, List.length_nil, decs_length, List.length_map]; omega)), (by first | omega | (simp only [List.length_set, List.length_append, List.length_take, List.length_drop, List.length_replicate, List.length_cons, List.length_nil, decs_length, List.length_map]; omega))⟩ ?_; refine W_norm rfl ?_)
          )
          | (refine K_load ?_; first
            | (refine W_loadO hs 0 rfl rfl rfl (by first | omega | (simp only [List.length_set, List.length_append, List.length_take, List.length_drop, List.length_replicate, List.length_cons, List.length_nil, decs_length, List.length_map]; omega)) rfl ?_; refine W_norm rfl ?_)
          )
        )
        | (refine K_code ?_; first
          | refine W_seq ?_
          | refine W_ops ?_
          | (refine W_cond rfl (fun hc => ?_) (fun hc => ?_) <;> (try rw [hc]) <;> (try simp only [decide_eq_true_eq, decide_eq_false_iff_not, beq_iff_eq, beq_eq_false_iff_ne, bne_iff_ne, bne_eq_false_iff_eq, Bool.not_eq_true', Bool.not_eq_false', Int.not_lt, Int.not_le, ne_eq, reduceCtorEq, not_true_eq_false, not_false_eq_true, Decidable.not_not] at hc) <;> (try (exfalso; omega)) <;> (try refine W_norm rfl ?_))
          | refine W_exit ?_
        )
        | refine seqK_n ?_
        | refine seqK_x ?_
        | refine blockK_n ?_
        | refine blockK_e ?_
        | refine invK_x ?_
        | refine invK_n ?_)
      have hs2 := sep_in (y := y1) hs hk1
      have h2f : (X1.set k (y1, ck)).map Prod.fst = X1.map Prod.fst := by
        rw [map_fst_set]
        exact set_same (by rw [List.getElem?_map, List.getElem?_eq_getElem hk1, hXk]; rfl)
      have h2x : X1.set k (y1, ck) = X.set k (y1, ck) := by rw [hX1, List.set_set]
      refine ⟨_, ?_, _, ⟨k + 1, _, X1.set k (y1, ck), L.set k ⟨C, !l.joined, l.short⟩, rfl, rfl, ?_, ?_, ?_, ?_, ?_, hs2⟩, EnvB.of rfl⟩
      · omega
      · omega
      · rw [List.length_set]; omega
      · rw [h2f]; exact AccS.again hkd hX1m
      · rw [h2x]
        refine LR.set k hO ⟨?_, ?_, ?_⟩
        · rw [hy1]; exact hC
        · rw [hy1, ← hl3]
        · rw [hy1, ← hl4]
      · exact hSL.set k (by show C.length ≤ 1000; omega)
  · replace hs := (hs.drop 0).drop 0
    simp only [List.eraseIdx_cons_zero] at hs
    repeat' (first
      | (refine K_ops ?_; first
        | refine W_fastB rfl ?_
        | refine W_nil ?_
        | (refine W_lenL rfl (by first | assumption | exact SlR.ln (by assumption) | exact AccS.ln (by assumption) | exact OwnS.ln (by assumption) | exact VwO.ln (by assumption) | exact OwnP.ln (by assumption) | exact Len.sl) ?_; refine W_norm rfl ?_)
      )
      | (refine K_code ?_; first
        | refine W_seq ?_
        | refine W_ops ?_
        | (refine W_cond rfl (fun hc => ?_) (fun hc => ?_) <;> (try rw [hc]) <;> (try simp only [decide_eq_true_eq, decide_eq_false_iff_not, beq_iff_eq, beq_eq_false_iff_ne, bne_iff_ne, bne_eq_false_iff_eq, Bool.not_eq_true', Bool.not_eq_false', Int.not_lt, Int.not_le, ne_eq, reduceCtorEq, not_true_eq_false, not_false_eq_true, Decidable.not_not] at hc) <;> (try (exfalso; omega)) <;> (try refine W_norm rfl ?_))
        | refine W_exit ?_
      )
      | refine seqK_n ?_
      | refine seqK_x ?_
      | refine blockK_e ?_
      | refine invK_x ?_)
    exact ⟨rfl, _, ⟨rfl, hs⟩, EnvB.of rfl⟩
abbrev seen8 : MCode := (.seq (.ops m8_r43) (.block 11 (.loop m8_l44)))
theorem w8_seen {R : Ro} {M : List Hp} {h : Heap} {e : List AV} {u : SV} {c : Hp} {X : List (LnH × Hp)} {L : List Ln} (he : EnvIs 267 [(18, .sc u)] e) (hs : Sep R (c :: (X.map Prod.snd).flatten :: M) h) (hU : AccS lnE 27 u (X.map Prod.fst) c) (hO : OwnX X L) (hSL : ShortL L) (hXn : X.length ≤ 1000) :
    W DD (.code (seen8) e h) (fun x e' h' => x = .normal ∧ ∃ sl, (sl = [] ∧ Sep R M h') ∧ EnvB e [19, 20, 191, 192, 193, 194, 195, 196, 197, 198, 199, 200, 201, 202, 203, 204, 205, 206, 207, 208, 209, 210, 211, 212, 213, 214] [0, 1, 2, 3, 4, 5, 6, 7, 8, 9, 10, 11, 12, 13, 14, 15, 16, 17, 18, 19, 20, 21, 22, 23, 24, 25, 26, 27, 28, 29, 30, 31, 32, 33, 34, 35, 36, 37, 38, 39, 40, 41, 42, 43, 44, 45, 46, 47, 48, 49, 50, 51, 52, 53, 54, 55, 56, 57, 58, 59, 60, 61, 62, 63, 64, 65, 66, 67, 68, 69, 70, 71, 72, 73, 74, 75, 76, 77, 78, 79, 80, 81, 82, 83, 84, 85, 86, 87, 88, 89, 90, 91, 92, 93, 94, 95, 96, 97, 98, 99, 100, 101, 102, 103, 104, 105, 106, 107, 108, 109, 110, 111, 112, 113, 114, 115, 116, 117, 118, 119, 120, 121, 122, 123, 124, 125, 126, 127, 128, 129, 130, 131, 132, 133, 134, 135, 136, 137, 138, 139, 140, 141, 142, 143, 144, 145, 146, 147, 148, 149, 150, 151, 152, 153, 154, 155, 156, 157, 158, 159, 160, 161, 162, 163, 164, 165, 166, 167, 168, 169, 170, 171, 172, 173, 174, 175, 176, 177, 178, 179, 180, 181, 182, 183, 184, 185, 186, 187, 188, 189, 190, 191, 192, 193, 194, 195, 196, 197, 198, 199, 200, 201, 202, 203, 204, 205, 206, 207, 208, 209, 210, 211, 212, 213, 214, 215, 216, 217, 218, 219, 220, 221, 222, 223, 224, 225, 226, 227, 228, 229, 230, 231, 232, 233, 234, 235, 236, 237, 238, 239, 240, 241, 242, 243, 244, 245, 246, 247, 248, 249, 250, 251, 252, 253, 254, 255, 256, 257, 258, 259, 260, 261, 262, 263, 264, 265, 266] sl e') := by
  obtain ⟨N, hN⟩ : ∃ N, X.length = N := ⟨_, rfl⟩
  have hNb : N ≤ 1000 := by omega
  have hln := hU.ln
  obtain ⟨us, rfl⟩ := he.list
  rw [show mkE us [(18, .sc u)] 0 267 = [us 0, us 1, us 2, us 3, us 4, us 5, us 6, us 7, us 8, us 9, us 10, us 11, us 12, us 13, us 14, us 15, us 16, us 17, .sc u, us 19, us 20, us 21, us 22, us 23, us 24, us 25, us 26, us 27, us 28, us 29, us 30, us 31, us 32, us 33, us 34, us 35, us 36, us 37, us 38, us 39, us 40, us 41, us 42, us 43, us 44, us 45, us 46, us 47, us 48, us 49, us 50, us 51, us 52, us 53, us 54, us 55, us 56, us 57, us 58, us 59, us 60, us 61, us 62, us 63, us 64, us 65, us 66, us 67, us 68, us 69, us 70, us 71, us 72, us 73, us 74, us 75, us 76, us 77, us 78, us 79, us 80, us 81, us 82, us 83, us 84, us 85, us 86, us 87, us 88, us 89, us 90, us 91, us 92, us 93, us 94, us 95, us 96, us 97, us 98, us 99, us 100, us 101, us 102, us 103, us 104, us 105, us 106, us 107, us 108, us 109, us 110, us 111, us 112, us 113, us 114, us 115, us 116, us 117, us 118, us 119, us 120, us 121, us 122, us 123, us 124, us 125, us 126, us 127, us 128, us 129, us 130, us 131, us 132, us 133, us 134, us 135, us 136, us 137, us 138, us 139, us 140, us 141, us 142, us 143, us 144, us 145, us 146, us 147, us 148, us 149, us 150, us 151, us 152, us 153, us 154, us 155, us 156, us 157, us 158, us 159, us 160, us 161, us 162, us 163, us 164, us 165, us 166, us 167, us 168, us 169, us 170, us 171, us 172, us 173, us 174, us 175, us 176, us 177, us 178, us 179, us 180, us 181, us 182, us 183, us 184, us 185, us 186, us 187, us 188, us 189, us 190, us 191, us 192, us 193, us 194, us 195, us 196, us 197, us 198, us 199, us 200, us 201, us 202, us 203, us 204, us 205, us 206, us 207, us 208, us 209, us 210, us 211, us 212, us 213, us 214, us 215, us 216, us 217, us 218, us 219, us 220, us 221, us 222, us 223, us 224, us 225, us 226, us 227, us 228, us 229, us 230, us 231, us 232, us 233, us 234, us 235, us 236, us 237, us 238, us 239, us 240, us 241, us 242, us 243, us 244, us 245, us 246, us 247, us 248, us 249, us 250, us 251, us 252, us 253, us 254, us 255, us 256, us 257, us 258, us 259, us 260, us 261, us 262, us 263, us 264, us 265, us 266] from rfl]
  unfold seen8
  repeat' (first
    | (refine K_ops ?_; first
      | refine W_fastB rfl ?_
      | refine W_nil ?_
    )
    | (refine K_code ?_; first
      | refine W_seq ?_
      | refine W_ops ?_
      | refine W_block ?_
    )
    | refine seqK_n ?_)
  refine W_loopB [19, 20, 191, 192, 193, 194, 195, 196, 197, 198, 199, 200, 201, 202, 203, 204, 205, 206, 207, 208, 209, 210, 211, 212, 213, 214] [0, 1, 2, 3, 4, 5, 6, 7, 8, 9, 10, 11, 12, 13, 14, 15, 16, 17, 18, 19, 20, 21, 22, 23, 24, 25, 26, 27, 28, 29, 30, 31, 32, 33, 34, 35, 36, 37, 38, 39, 40, 41, 42, 43, 44, 45, 46, 47, 48, 49, 50, 51, 52, 53, 54, 55, 56, 57, 58, 59, 60, 61, 62, 63, 64, 65, 66, 67, 68, 69, 70, 71, 72, 73, 74, 75, 76, 77, 78, 79, 80, 81, 82, 83, 84, 85, 86, 87, 88, 89, 90, 91, 92, 93, 94, 95, 96, 97, 98, 99, 100, 101, 102, 103, 104, 105, 106, 107, 108, 109, 110, 111, 112, 113, 114, 115, 116, 117, 118, 119, 120, 121, 122, 123, 124, 125, 126, 127, 128, 129, 130, 131, 132, 133, 134, 135, 136, 137, 138, 139, 140, 141, 142, 143, 144, 145, 146, 147, 148, 149, 150, 151, 152, 153, 154, 155, 156, 157, 158, 159, 160, 161, 162, 163, 164, 165, 166, 167, 168, 169, 170, 171, 172, 173, 174, 175, 176, 177, 178, 179, 180, 181, 182, 183, 184, 185, 186, 187, 188, 189, 190, 191, 192, 193, 194, 195, 196, 197, 198, 199, 200, 201, 202, 203, 204, 205, 206, 207, 208, 209, 210, 211, 212, 213, 214, 215, 216, 217, 218, 219, 220, 221, 222, 223, 224, 225, 226, 227, 228, 229, 230, 231, 232, 233, 234, 235, 236, 237, 238, 239, 240, 241, 242, 243, 244, 245, 246, 247, 248, 249, 250, 251, 252, 253, 254, 255, 256, 257, 258, 259, 260, 261, 262, 263, 264, 265, 266] (fun n' sl h' => ∃ (k : Nat) (c : Hp) (X : List (LnH × Hp)) (L : List Ln), sl = [(19, .sc (.int .i64 (k : Int)))] ∧ n' = N - k ∧ k ≤ N ∧ X.length = N ∧ AccS lnE 27 u (X.map Prod.fst) c ∧ OwnX X L ∧ ShortL L ∧ Sep R (c :: (X.map Prod.snd).flatten :: M) h') ?_ ?_
  · refine ⟨_, _, ⟨0, c, X, L, rfl, rfl, Nat.zero_le _, hN, hU, hO, hSL, hs⟩, EnvB.of rfl⟩
  clear hs hU hO hSL hln hN
  rintro _ _ us _ h3 ⟨k, c, X, L, rfl, rfl, hk, hX, hU, hO, hSL, hs⟩ he
  refine W_spell he rfl ?_
  clear he
  unfold m8_l44
  have hXl : (X.map Prod.fst).length = N := by rw [List.length_map]; exact hX
  have hun := hU.ln
  by_cases hlt2 : k < N
  · have hkX : k < X.length := by omega
    obtain ⟨l, hl1, hl2, hl3, hl4⟩ := ownx_at hO hkX
    obtain ⟨idh, kdh, rfl, rfl, hkd⟩ := hU.pos (by omega)
    obtain ⟨y0, hy0⟩ : ∃ y0, y0 = (X[k]'hkX).1 := ⟨_, rfl⟩
    have e1 : (X.map Prod.fst).getD (k : Int).toNat lnE.dflt = y0 := by
      rw [Int.toNat_natCast, List.getD_eq_getElem?_getD, List.getElem?_map, List.getElem?_eq_getElem hkX, hy0]; rfl
    have hlc : l.cells.length ≤ 1000 := hSL l (List.mem_of_getElem? hl1)
    rw [← hy0] at hl2 hl3 hl4
    replace hs := sep_out hs hkX
    repeat' (first
      | (refine K_ops ?_; first
        | refine W_fastB rfl ?_
        | refine W_nil ?_
        | (refine W_lenL rfl (by first | assumption | exact SlR.ln (by assumption) | exact AccS.ln (by assumption) | exact OwnS.ln (by assumption) | exact VwO.ln (by assumption) | exact OwnP.ln (by assumption) | exact Len.sl) ?_; refine W_norm rfl ?_)
      )
      | (refine K_code ?_; first
        | refine W_seq ?_
        | refine W_ops ?_
        | (refine W_cond rfl (fun hc => ?_) (fun hc => ?_) <;> (try rw [hc]) <;> (try simp only [decide_eq_true_eq, decide_eq_false_iff_not, beq_iff_eq, beq_eq_false_iff_ne, bne_iff_ne, bne_eq_false_iff_eq, Bool.not_eq_true', Bool.not_eq_false', Int.not_lt, Int.not_le, ne_eq, reduceCtorEq, not_true_eq_false, not_false_eq_true, Decidable.not_not] at hc) <;> (try (exfalso; omega)) <;> (try refine W_norm rfl ?_))
        | refine W_skip ?_
        | refine W_block ?_
      )
      | refine seqK_n ?_)
    refine W_loopB [20, 197, 198, 199, 200, 201, 202, 203, 204, 205, 206, 207, 208, 209, 210, 211, 212, 213, 214] [0, 1, 2, 3, 4, 5, 6, 7, 8, 9, 10, 11, 12, 13, 14, 15, 16, 17, 18, 19, 20, 21, 22, 23, 24, 25, 26, 27, 28, 29, 30, 31, 32, 33, 34, 35, 36, 37, 38, 39, 40, 41, 42, 43, 44, 45, 46, 47, 48, 49, 50, 51, 52, 53, 54, 55, 56, 57, 58, 59, 60, 61, 62, 63, 64, 65, 66, 67, 68, 69, 70, 71, 72, 73, 74, 75, 76, 77, 78, 79, 80, 81, 82, 83, 84, 85, 86, 87, 88, 89, 90, 91, 92, 93, 94, 95, 96, 97, 98, 99, 100, 101, 102, 103, 104, 105, 106, 107, 108, 109, 110, 111, 112, 113, 114, 115, 116, 117, 118, 119, 120, 121, 122, 123, 124, 125, 126, 127, 128, 129, 130, 131, 132, 133, 134, 135, 136, 137, 138, 139, 140, 141, 142, 143, 144, 145, 146, 147, 148, 149, 150, 151, 152, 153, 154, 155, 156, 157, 158, 159, 160, 161, 162, 163, 164, 165, 166, 167, 168, 169, 170, 171, 172, 173, 174, 175, 176, 177, 178, 179, 180, 181, 182, 183, 184, 185, 186, 187, 188, 189, 190, 191, 192, 193, 194, 195, 196, 197, 198, 199, 200, 201, 202, 203, 204, 205, 206, 207, 208, 209, 210, 211, 212, 213, 214, 215, 216, 217, 218, 219, 220, 221, 222, 223, 224, 225, 226, 227, 228, 229, 230, 231, 232, 233, 234, 235, 236, 237, 238, 239, 240, 241, 242, 243, 244, 245, 246, 247, 248, 249, 250, 251, 252, 253, 254, 255, 256, 257, 258, 259, 260, 261, 262, 263, 264, 265, 266] (fun n' sl h' => ∃ (j : Nat) (C : List Cell) (ck : Hp), sl = [(20, .sc (.int .i64 (j : Int)))] ∧ n' = l.cells.length - j ∧ j ≤ l.cells.length ∧ C.length = l.cells.length ∧ AccS cellE 71 y0.v C ck ∧ Sep R ([(idh, .cells 27 kdh ((X.map Prod.fst).flatMap lnE.enc))] :: ck :: ((X.map Prod.snd).eraseIdx k).flatten :: M) h') ?_ ?_
    · refine ⟨_, _, ⟨0, l.cells, _, rfl, rfl, Nat.zero_le _, rfl, hl2, hs⟩, EnvB.of rfl⟩
    clear hs
    rintro _ _ us _ h5 ⟨j, C, ck, rfl, rfl, hj, hCl, hC, hs⟩ he
    refine W_spell he rfl ?_
    clear he
    unfold m8_l47
    have e3 : ((X.map Prod.fst).getD (k : Int).toNat lnE.dflt).v = y0.v := by rw [e1]
    have hcn := hC.ln
    by_cases hlt3 : j < l.cells.length
    · obtain ⟨idc, kdc, hvv, rfl, hkc⟩ := hC.pos (by omega)
      rw [hvv] at e3
      repeat' (first
        | (refine K_ops ?_; first
          | refine W_fastB rfl ?_
          | refine W_nil ?_
          | (rw [e3])
          | (refine W_lenL rfl (by first | assumption | exact SlR.ln (by assumption) | exact AccS.ln (by assumption) | exact OwnS.ln (by assumption) | exact VwO.ln (by assumption) | exact OwnP.ln (by assumption) | exact Len.sl) ?_; refine W_norm rfl ?_)
          | (refine K_bin ?_; first
            | (refine W_add rfl rfl (IntWalk.i64_in _ (by first | omega | (simp only [List.length_set, List.length_append, List.length_take, List.length_drop, List.length_replicate, List.length_cons, List.length_nil, decs_length, List.length_map]; omega))) ?_; refine W_norm rfl ?_)
          )
          | (refine K_index ?_; first
            | (refine W_indexO rfl rfl ⟨(by first | omega | (simp only [List.length_set, List.length_append, List.length_take, List.length_drop, List.length_replicate, List.length_cons, List.length_nil, decs_length, List.length_map]; omega)), (by first | omega | (simp only [List.length_set, List.length_append, List.length_take, List.length_drop, List.length_replicate, List.length_cons, List.length_nil, decs_length, List.length_map]; omega))⟩ ?_; refine W_norm rfl ?_)
          )
          | (refine K_load ?_; first
            | (refine W_loadO hs 0 rfl rfl rfl (by first | omega | (simp only [List.length_set, List.length_append, List.length_take, List.length_drop, List.length_replicate, List.length_cons, List.length_nil, decs_length, List.length_map]; omega)) rfl ?_; refine W_norm rfl ?_)
          )
          | (refine K_store ?_; first
            | (refine W_storeOF hs 1 rfl rfl rfl rfl rfl (by first | omega | (simp only [List.length_set, List.length_append, List.length_take, List.length_drop, List.length_replicate, List.length_cons, List.length_nil, decs_length, List.length_map]; omega)) (by first | decide | assumption) rfl rfl rfl rfl ?_; clear hs; intro _ hs; try simp only [cell_back, attr_back, List.set_cons_zero, List.set_cons_succ, List.eraseIdx_cons_succ, List.eraseIdx_zero, List.tail_cons, List.nil_append, List.cons_append] at hs; refine W_norm rfl ?_)
          )
        )
        | (refine K_code ?_; first
          | refine W_seq ?_
          | refine W_ops ?_
          | (refine W_cond rfl (fun hc => ?_) (fun hc => ?_) <;> (try rw [hc]) <;> (try simp only [decide_eq_true_eq, decide_eq_false_iff_not, beq_iff_eq, beq_eq_false_iff_ne, bne_iff_ne, bne_eq_false_iff_eq, Bool.not_eq_true', Bool.not_eq_false', Int.not_lt, Int.not_le, ne_eq, reduceCtorEq, not_true_eq_false, not_false_eq_true, Decidable.not_not] at hc) <;> (try (exfalso; omega)) <;> (try refine W_norm rfl ?_))
          | refine W_skip ?_
          | refine W_block ?_
        )
        | refine seqK_n ?_
        | refine blockK_n ?_
        | refine invK_n ?_)
      obtain ⟨C2, hC2, hs⟩ : ∃ C2 : List Cell, C2.length = C.length ∧ Sep R ([(idh, .cells 27 kdh ((X.map Prod.fst).flatMap lnE.enc))] :: [(idc, .cells 71 kdc (C2.flatMap cellE.enc))] :: ((X.map Prod.snd).eraseIdx k).flatten :: M) _ := ⟨_, List.length_set, hs⟩
      refine ⟨_, ?_, _, ⟨j + 1, C2, _, rfl, rfl, ?_, ?_, ?_, hs⟩, EnvB.of rfl⟩
      · omega
      · omega
      · rw [hC2]; exact hCl
      · rw [hvv]; exact AccS.again hkc hC2
    · repeat' (first
        | (refine K_ops ?_; first
          | refine W_fastB rfl ?_
          | refine W_nil ?_
          | (rw [e3])
          | (refine W_lenL rfl (by first | assumption | exact SlR.ln (by assumption) | exact AccS.ln (by assumption) | exact OwnS.ln (by assumption) | exact VwO.ln (by assumption) | exact OwnP.ln (by assumption) | exact Len.sl) ?_; refine W_norm rfl ?_)
          | (refine K_bin ?_; first
            | (refine W_add rfl rfl (IntWalk.i64_in _ (by first | omega | (simp only [List.length_set, List.length_append, List.length_take, List.length_drop, List.length_replicate, List.length_cons, List.length_nil, decs_length, List.length_map]; omega))) ?_; refine W_norm rfl ?_)
          )
          | (refine K_index ?_; first
            | (refine W_indexO rfl rfl ⟨(by first | omega | (simp only [List.length_set, List.length_append, List.length_take, List.length_drop, List.length_replicate, List.length_cons, List.length_nil, decs_length, List.length_map]; omega)), (by first | omega | (simp only [List.length_set, List.length_append, List.length_take, List.length_drop, List.length_replicate, List.length_cons, List.length_nil, decs_length, List.length_map]; omega))⟩ ?_; refine W_norm rfl ?_)
          )
          | (refine K_load ?_; first
            | (refine W_loadO hs 0 rfl rfl rfl (by first | omega | (simp only [List.length_set, List.length_append, List.length_take, List.length_drop, List.length_replicate, List.length_cons, List.length_nil, decs_length, List.length_map]; omega)) rfl ?_; refine W_norm rfl ?_)
          )
        )
        | (refine K_code ?_; first
          | refine W_seq ?_
          | refine W_ops ?_
          | (refine W_cond rfl (fun hc => ?_) (fun hc => ?_) <;> (try rw [hc]) <;> (try simp only [decide_eq_true_eq, decide_eq_false_iff_not, beq_iff_eq, beq_eq_false_iff_ne, bne_iff_ne, bne_eq_false_iff_eq, Bool.not_eq_true', Bool.not_eq_false', Int.not_lt, Int.not_le, ne_eq, reduceCtorEq, not_true_eq_false, not_false_eq_true, Decidable.not_not] at hc) <;> (try (exfalso; omega)) <;> (try refine W_norm rfl ?_))
          | refine W_exit ?_
        )
        | refine seqK_n ?_
        | refine seqK_x ?_
        | refine blockK_n ?_
        | refine blockK_e ?_
        | refine invK_x ?_
        | refine invK_n ?_)
      have hs2 := sep_in (y := y0) hs hkX
      have h2f : (X.set k (y0, ck)).map Prod.fst = X.map Prod.fst := by
        rw [map_fst_set]
        exact set_same (by rw [List.getElem?_map, List.getElem?_eq_getElem hkX, hy0]; rfl)
      refine ⟨_, ?_, _, ⟨k + 1, _, X.set k (y0, ck), L.set k ⟨C, l.joined, l.short⟩, rfl, rfl, ?_, ?_, ?_, ?_, ?_, hs2⟩, EnvB.of rfl⟩
      · omega
      · omega
      · rw [List.length_set]; omega
      · rw [h2f]; exact AccS.again hkd rfl
      · exact LR.set k hO ⟨hC, hl3, hl4⟩
      · exact hSL.set k (by show C.length ≤ 1000; omega)
  · replace hs := (hs.drop 0).drop 0
    simp only [List.eraseIdx_cons_zero] at hs
    repeat' (first
      | (refine K_ops ?_; first
        | refine W_fastB rfl ?_
        | refine W_nil ?_
        | (refine W_lenL rfl (by first | assumption | exact SlR.ln (by assumption) | exact AccS.ln (by assumption) | exact OwnS.ln (by assumption) | exact VwO.ln (by assumption) | exact OwnP.ln (by assumption) | exact Len.sl) ?_; refine W_norm rfl ?_)
      )
      | (refine K_code ?_; first
        | refine W_seq ?_
        | refine W_ops ?_
        | (refine W_cond rfl (fun hc => ?_) (fun hc => ?_) <;> (try rw [hc]) <;> (try simp only [decide_eq_true_eq, decide_eq_false_iff_not, beq_iff_eq, beq_eq_false_iff_ne, bne_iff_ne, bne_eq_false_iff_eq, Bool.not_eq_true', Bool.not_eq_false', Int.not_lt, Int.not_le, ne_eq, reduceCtorEq, not_true_eq_false, not_false_eq_true, Decidable.not_not] at hc) <;> (try (exfalso; omega)) <;> (try refine W_norm rfl ?_))
        | refine W_exit ?_
      )
      | refine seqK_n ?_
      | refine seqK_x ?_
      | refine blockK_e ?_
      | refine invK_x ?_)
    exact ⟨rfl, _, ⟨rfl, hs⟩, EnvB.of rfl⟩
end Go.Proofs.YtbkhjpclnfljbaaDoor
/- Views: the law CopyStill. CLNONE -/
set_option linter.unusedSimpArgs false
set_option linter.unusedVariables false
set_option maxHeartbeats 4000000
set_option maxRecDepth 100000
namespace Go.Proofs.YtbkhjpclnfljbaaDoor
open Go Go.Jx

theorem own_len : ∀ {X : List (LnH × Hp)} {L : List Ln}, OwnX X L → X.length = L.length
  | [], [], _ => rfl
  | _ :: _, _ :: _, h => congrArg (· + 1) (own_len h.2)
  | [], _ :: _, h => h.elim
  | _ :: _, [], h => h.elim
theorem seen_facts {v : Vw} (ok : OkV v) : 1 ≤ (seenV v).length ∧ (seenV v).length ≤ 900 ∧ ShortL (seenV v) := by
  have h1 := ok.l.big
  have h2 := ok.t0
  have h3 := ok.t1
  have h4 := ok.t2
  have h5 := ok.y1
  have e : (seenV v).length = min (min (v.top + v.h) v.L.length).toNat v.L.length - v.top.toNat := by unfold seenV; rw [List.length_drop, List.length_take]
  refine ⟨by omega, by omega, fun l hl => ?_⟩
  unfold seenV at hl
  exact (ok.l.cells l (List.mem_of_mem_take (List.mem_of_mem_drop hl))).2
theorem still_step {R : Ro} {G : List LnC} {X : List (LnH × Hp)} {k : Nat} {v2 u3 : SV} {c1 c2 c3 : Hp} {h : Heap} (hc : AccS cellE 71 v2 ([] ++ atC G k) c2) (hh : AccS lnE 27 u3 (X.map Prod.fst ++ [lnE.dec [v2, .bool (atH G k).j, .bool (atH G k).s]]) c3)
    (hs : Sep R [c1, c2, c3, (X.map Prod.snd).flatten] h) (hX : X.length = k) (hO : OwnX X ((G.map lnOf).take k)) (hlt : k < G.length) :
    ∃ X' : List (LnH × Hp), X'.length = k + 1 ∧ AccS lnE 27 u3 (X'.map Prod.fst) c3 ∧ OwnX X' ((G.map lnOf).take (k + 1)) ∧ Sep R [c3, (X'.map Prod.snd).flatten] h := by
  refine ⟨X ++ [((⟨v2, (atH G k).j, (atH G k).s⟩ : LnH), c2)], by simp [hX], ?_, ?_, ?_⟩
  · rw [List.map_append]; exact hh
  · rw [List.take_add_one, lnOf_atH hlt]
    exact LR.append hO ⟨⟨hc, rfl, rfl⟩, trivial⟩
  · refine (hs.drop 0).perm ?_
    simp only [List.eraseIdx_cons_zero, List.flatten_cons, List.flatten_nil, List.append_nil, List.map_append, List.map_cons, List.map_nil, List.flatten_append]
    refine List.perm_append_comm.trans ?_
    rw [List.append_assoc]
theorem w8 {v va : SV} {G : List LnC} {AS : List ActV} {n : Int} {h : Heap} (hv : LnsR (Now h) v G) (hl : G.length ≤ 2 ^ 63 - 1) (hl2 : ∀ g ∈ G, g.2.length ≤ 2 ^ 63 - 1) (hr : RunesG G) (hn : -9223372036854775808 ≤ n ∧ n ≤ 9223372036854775807)
    (ha : SlR actE (Now h) va AS) (hal : AS.length ≤ 2 ^ 63 - 1) (hao : ∀ a ∈ AS, okA a) :
    Wc DD 8 [.sc v, i64 n, .sc va] h fun w h' => w = bo true := by
  have hs := Sep.entry h
  have hln := hv.ln
  have haln := ha.ln
  have hv1 := hv.1
  have hGl : (G.map Prod.fst).length = G.length := List.length_map ..
  refine W_enter d8 ?_
  show W _ (.code m8_code [.sc v, i64 n, .sc va, undefA, undefA, undefA, undefA, undefA, undefA, undefA, undefA, undefA, undefA, undefA, undefA, undefA, undefA, undefA, undefA, undefA, undefA, undefA, undefA, undefA, undefA, undefA, undefA, undefA, undefA, undefA, undefA, undefA, undefA, undefA, undefA, undefA, undefA, undefA, undefA, undefA, undefA, undefA, undefA, undefA, undefA, undefA, undefA, undefA, undefA, undefA, undefA, undefA, undefA, undefA, undefA, undefA, undefA, undefA, undefA, undefA, undefA, undefA, undefA, undefA, undefA, undefA, undefA, undefA, undefA, undefA, undefA, undefA, undefA, undefA, undefA, undefA, undefA, undefA, undefA, undefA, undefA, undefA, undefA, undefA, undefA, undefA, undefA, undefA, undefA, undefA, undefA, undefA, undefA, undefA, undefA, undefA, undefA, undefA, undefA, undefA, undefA, undefA, undefA, undefA, undefA, undefA, undefA, undefA, undefA, undefA, undefA, undefA, undefA, undefA, undefA, undefA, undefA, undefA, undefA, undefA, undefA, undefA, undefA, undefA, undefA, undefA, undefA, undefA, undefA, undefA, undefA, undefA, undefA, undefA, undefA, undefA, undefA, undefA, undefA, undefA, undefA, undefA, undefA, undefA, undefA, undefA, undefA, undefA, undefA, undefA, undefA, undefA, undefA, undefA, undefA, undefA, undefA, undefA, undefA, undefA, undefA, undefA, undefA, undefA, undefA, undefA, undefA, undefA, undefA, undefA, undefA, undefA, undefA, undefA, undefA, undefA, undefA, undefA, undefA, undefA, undefA, undefA, undefA, undefA, undefA, undefA, undefA, undefA, undefA, undefA, undefA, undefA, undefA, undefA, undefA, undefA, undefA, undefA, undefA, undefA, undefA, undefA, undefA, undefA, undefA, undefA, undefA, undefA, undefA, undefA, undefA, undefA, undefA, undefA, undefA, undefA, undefA, undefA, undefA, undefA, undefA, undefA, undefA, undefA, undefA, undefA, undefA, undefA, undefA, undefA, undefA, undefA, undefA, undefA, undefA, undefA, undefA, undefA, undefA, undefA, undefA, undefA, undefA, undefA, undefA, undefA, undefA, undefA, undefA, undefA, undefA, undefA, undefA, undefA, undefA, undefA, undefA, undefA, undefA, undefA, undefA, undefA, undefA, undefA, undefA, undefA, undefA] _) _
  unfold m8_code
  repeat' (first
    | (refine K_ops ?_; first
      | refine W_fastB rfl ?_
      | refine W_nil ?_
      | (refine K_guard ?_; first
        | refine W_guard_on rfl ?_
        | refine W_guard_off rfl rfl (W_norm rfl ?_)
        | (refine W_guardF rfl (fun hc => ?_) (fun hc => ?_) <;> (try rw [hc]) <;> (try simp only [decide_eq_true_eq, decide_eq_false_iff_not, beq_iff_eq, beq_eq_false_iff_ne, bne_iff_ne, bne_eq_false_iff_eq, Bool.not_eq_true', Bool.not_eq_false', Int.not_lt, Int.not_le, ne_eq, reduceCtorEq, not_true_eq_false, not_false_eq_true, Decidable.not_not] at hc) <;> (try (exfalso; omega)) <;> (try refine W_norm rfl ?_))
      )
      | (refine K_call ?_; first
        | (refine W_callsN 9 rfl (w9 hv hl hl2) rfl ?_; rintro _ h ⟨⟨gb, rfl, hgb⟩, rfl⟩; refine W_norm rfl ?_)
        | (refine W_callsN 10 rfl (w10g _) rfl ?_; rintro _ h ⟨rfl, rfl⟩; refine W_norm rfl ?_)
      )
      | (refine W_lenL rfl (by first | assumption | exact SlR.ln (by assumption) | exact AccS.ln (by assumption) | exact OwnS.ln (by assumption) | exact VwO.ln (by assumption) | exact OwnP.ln (by assumption) | exact Len.sl) ?_; refine W_norm rfl ?_)
      | (refine K_pick ?_; first
        | refine W_pick_t rfl rfl (W_norm rfl ?_)
        | refine W_pick_f rfl rfl (W_norm rfl ?_)
      )
    )
    | (refine K_code ?_; first
      | refine W_seq ?_
      | refine W_ops ?_
      | refine W_cond_t rfl ?_
      | (refine W_cond rfl (fun hc => ?_) (fun hc => ?_) <;> (try rw [hc]) <;> (try simp only [decide_eq_true_eq, decide_eq_false_iff_not, beq_iff_eq, beq_eq_false_iff_ne, bne_iff_ne, bne_eq_false_iff_eq, Bool.not_eq_true', Bool.not_eq_false', Int.not_lt, Int.not_le, ne_eq, reduceCtorEq, not_true_eq_false, not_false_eq_true, Decidable.not_not] at hc) <;> (try (exfalso; omega)) <;> (try refine W_norm rfl ?_))
      | refine W_skip ?_
      | refine W_ret ?_
      | refine W_block ?_
    )
    | refine seqK_n ?_
    | refine seqK_r ?_
    | (refine fnK_r rfl ?_; try dsimp only [gd_z, gd_s]))
  rotate_left 1
  all_goals try exact ⟨_, rfl, rfl⟩
  obtain ⟨g1, g2⟩ := hgb (by assumption)
  refine W_loopB [7, 8, 33, 34, 35, 36, 37, 38, 39, 40, 41, 42, 43, 44, 45, 46, 47, 48, 49, 50, 51, 52, 53, 54, 55, 56, 57, 58, 59] [0, 1, 2, 3, 4, 5, 6, 7, 8, 9, 10, 11, 12, 13, 14, 15, 16, 17, 18, 19, 20, 21, 22, 23, 24, 25, 26, 27, 28, 29, 30, 31, 32, 33, 34, 35, 36, 37, 38, 39, 40, 41, 42, 43, 44, 45, 46, 47, 48, 49, 50, 51, 52, 53, 54, 55, 56, 57, 58, 59, 60, 61, 62, 63, 64, 65, 66, 67, 68, 69, 70, 71, 72, 73, 74, 75, 76, 77, 78, 79, 80, 81, 82, 83, 84, 85, 86, 87, 88, 89, 90, 91, 92, 93, 94, 95, 96, 97, 98, 99, 100, 101, 102, 103, 104, 105, 106, 107, 108, 109, 110, 111, 112, 113, 114, 115, 116, 117, 118, 119, 120, 121, 122, 123, 124, 125, 126, 127, 128, 129, 130, 131, 132, 133, 134, 135, 136, 137, 138, 139, 140, 141, 142, 143, 144, 145, 146, 147, 148, 149, 150, 151, 152, 153, 154, 155, 156, 157, 158, 159, 160, 161, 162, 163, 164, 165, 166, 167, 168, 169, 170, 171, 172, 173, 174, 175, 176, 177, 178, 179, 180, 181, 182, 183, 184, 185, 186, 187, 188, 189, 190, 191, 192, 193, 194, 195, 196, 197, 198, 199, 200, 201, 202, 203, 204, 205, 206, 207, 208, 209, 210, 211, 212, 213, 214, 215, 216, 217, 218, 219, 220, 221, 222, 223, 224, 225, 226, 227, 228, 229, 230, 231, 232, 233, 234, 235, 236, 237, 238, 239, 240, 241, 242, 243, 244, 245, 246, 247, 248, 249, 250, 251, 252, 253, 254, 255, 256, 257, 258, 259, 260, 261, 262, 263, 264, 265, 266] (fun n' sl h' => ∃ (k : Nat) (u : SV) (c : Hp) (X : List (LnH × Hp)), sl = [(7, .sc u), (8, .sc (.int .i64 (k : Int)))] ∧ n' = G.length - k ∧ k ≤ G.length ∧ X.length = k ∧ AccS lnE 27 u (X.map Prod.fst) c ∧ OwnX X ((G.map lnOf).take k) ∧ Sep (Now h) [c, (X.map Prod.snd).flatten] h') ?_ ?_
  · refine ⟨_, _, ⟨0, .nils, [], [], rfl, rfl, Nat.zero_le _, rfl, AccS.nil _, trivial, ?_⟩, EnvB.of rfl⟩
    exact hs.sublist (by simp)
  clear hs
  rintro _ _ us _ h2 ⟨k, u, c, X, rfl, rfl, hk, hX, hU, hO, hs⟩ he
  refine W_spell he rfl ?_
  clear he
  unfold m8_l5
  by_cases hlt : k < G.length
  · have hrow := hv.at hlt
    have hrl := atC_len g2 hlt
    have hxl : (X.map Prod.fst).length = k := by rw [List.length_map]; exact hX
    repeat' (first
      | (refine K_ops ?_; first
        | refine W_fastB rfl ?_
        | refine W_nil ?_
        | (refine W_lenL rfl (by first | assumption | exact SlR.ln (by assumption) | exact AccS.ln (by assumption) | exact OwnS.ln (by assumption) | exact VwO.ln (by assumption) | exact OwnP.ln (by assumption) | exact Len.sl) ?_; refine W_norm rfl ?_)
      )
      | (refine K_code ?_; first
        | refine W_seq ?_
        | refine W_ops ?_
        | (refine W_cond rfl (fun hc => ?_) (fun hc => ?_) <;> (try rw [hc]) <;> (try simp only [decide_eq_true_eq, decide_eq_false_iff_not, beq_iff_eq, beq_eq_false_iff_ne, bne_iff_ne, bne_eq_false_iff_eq, Bool.not_eq_true', Bool.not_eq_false', Int.not_lt, Int.not_le, ne_eq, reduceCtorEq, not_true_eq_false, not_false_eq_true, Decidable.not_not] at hc) <;> (try (exfalso; omega)) <;> (try refine W_norm rfl ?_))
        | refine W_skip ?_
        | refine W_block ?_
      )
      | refine seqK_n ?_)
    repeat' (first
      | (refine K_ops ?_; first
        | refine W_fastB rfl ?_
        | refine W_nil ?_
        | (refine K_bin ?_; first
          | (refine W_add rfl rfl (IntWalk.i64_in _ (by first | omega | (simp only [List.length_set, List.length_append, List.length_take, List.length_drop, List.length_replicate, List.length_cons, List.length_nil, decs_length, List.length_map]; omega))) ?_; refine W_norm rfl ?_)
        )
        | (refine K_index ?_; first
          | (refine W_indexR rfl rfl (by assumption) rfl ⟨(by first | omega | (simp only [List.length_set, List.length_append, List.length_take, List.length_drop, List.length_replicate, List.length_cons, List.length_nil, decs_length, List.length_map]; omega)), (by first | omega | (simp only [List.length_set, List.length_append, List.length_take, List.length_drop, List.length_replicate, List.length_cons, List.length_nil, decs_length, List.length_map]; omega))⟩ ?_; intro _ _ _; refine W_norm rfl ?_)
        )
        | (refine K_load ?_; first
          | (refine W_loadR hs rfl (by assumption) rfl ?_; refine W_norm rfl ?_)
          | (refine W_loadRF hs rfl (by assumption) rfl ?_; refine W_norm rfl ?_)
        )
        | (refine K_bslice ?_; first
          | (refine W_buildS0 cellE hs ?_; intro _ _ _ _ hs; try simp only [cell_back, attr_back, List.set_cons_zero, List.set_cons_succ, List.eraseIdx_cons_succ, List.eraseIdx_zero, List.tail_cons, List.nil_append, List.cons_append] at hs; refine W_norm rfl ?_)
          | (refine W_buildS1 lnE hs rfl rfl ?_; intro _ _ _ _ hs; try simp only [cell_back, attr_back, List.set_cons_zero, List.set_cons_succ, List.eraseIdx_cons_succ, List.eraseIdx_zero, List.tail_cons, List.nil_append, List.cons_append] at hs; refine W_norm rfl ?_)
        )
        | (refine K_append ?_; first
          | (refine W_appS hs 0 rfl rfl (by assumption) rfl (by first | assumption | exact SlR.now hs (by assumption) | exact AccS.now (by assumption) hs (by simp) | exact OwnS.now (by assumption) hs (by simp)) rfl ⟨by decide, (by first | omega | (simp only [List.length_set, List.length_append, List.length_take, List.length_drop, List.length_replicate, List.length_cons, List.length_nil, decs_length, List.length_map]; omega))⟩ ?_; intro _ _ _ _ hs; try simp only [cell_back, attr_back, List.set_cons_zero, List.set_cons_succ, List.eraseIdx_cons_succ, List.eraseIdx_zero, List.tail_cons, List.nil_append, List.cons_append] at hs; refine W_norm rfl ?_)
          | (refine W_appS hs 2 rfl rfl (by assumption) rfl (by first | assumption | exact SlR.now hs (by assumption) | exact AccS.now (by assumption) hs (by simp) | exact OwnS.now (by assumption) hs (by simp)) rfl ⟨by decide, (by first | omega | (simp only [List.length_set, List.length_append, List.length_take, List.length_drop, List.length_replicate, List.length_cons, List.length_nil, decs_length, List.length_map]; omega))⟩ ?_; intro _ _ _ _ hs; try simp only [cell_back, attr_back, List.set_cons_zero, List.set_cons_succ, List.eraseIdx_cons_succ, List.eraseIdx_zero, List.tail_cons, List.nil_append, List.cons_append] at hs; refine W_norm rfl ?_)
        )
        | (refine W_buildN rfl ?_; refine W_norm rfl ?_)
      )
      | (refine K_code ?_; first
        | refine W_ops ?_
        | refine W_draws ?_
      )
      | refine W_dstep rfl ?_
      | refine ⟨rfl, fun rc hrec => ?_⟩
      | (refine W_dnilS (by simp only [List.reverse_cons, List.reverse_nil, List.nil_append, List.cons_append]; rfl) (by repeat' first | exact CL_nil _ _ | refine CL_skip rfl ?_ | refine CL_none (by assumption) rfl ?_ | refine CL_load (by assumption) rfl (by first | exact trivial | (repeat' first | exact trivial | refine ⟨⟨_, rfl, (by refine (congrArg (fun x => Heap.get x _) (RecIs.hh (by assumption))).trans ?_; first | rfl | exact PtR.same_get (by assumption) (by assumption) (by assumption) | exact Sep.same_get (by assumption) (by assumption) 0 0 rfl rfl | exact Sep.same_get (by assumption) (by assumption) 0 1 rfl rfl | exact Sep.same_get (by assumption) (by assumption) 0 2 rfl rfl | exact Sep.same_get (by assumption) (by assumption) 0 3 rfl rfl | exact Sep.same_get (by assumption) (by assumption) 0 4 rfl rfl | exact Sep.same_get (by assumption) (by assumption) 1 0 rfl rfl | exact Sep.same_get (by assumption) (by assumption) 1 1 rfl rfl | exact Sep.same_get (by assumption) (by assumption) 1 2 rfl rfl | exact Sep.same_get (by assumption) (by assumption) 1 3 rfl rfl | exact Sep.same_get (by assumption) (by assumption) 1 4 rfl rfl | exact Sep.same_get (by assumption) (by assumption) 2 0 rfl rfl | exact Sep.same_get (by assumption) (by assumption) 2 1 rfl rfl | exact Sep.same_get (by assumption) (by assumption) 2 2 rfl rfl | exact Sep.same_get (by assumption) (by assumption) 2 3 rfl rfl | exact Sep.same_get (by assumption) (by assumption) 2 4 rfl rfl | exact Sep.same_get (by assumption) (by assumption) 3 0 rfl rfl | exact Sep.same_get (by assumption) (by assumption) 3 1 rfl rfl | exact Sep.same_get (by assumption) (by assumption) 3 2 rfl rfl | exact Sep.same_get (by assumption) (by assumption) 3 3 rfl rfl | exact Sep.same_get (by assumption) (by assumption) 3 4 rfl rfl | exact Sep.same_get (by assumption) (by assumption) 4 0 rfl rfl | exact Sep.same_get (by assumption) (by assumption) 4 1 rfl rfl | exact Sep.same_get (by assumption) (by assumption) 4 2 rfl rfl | exact Sep.same_get (by assumption) (by assumption) 4 3 rfl rfl | exact Sep.same_get (by assumption) (by assumption) 4 4 rfl rfl)⟩, ?_⟩)) (by first | exact trivial | (repeat' first | exact trivial | refine ⟨⟨_, rfl, (by refine (congrArg (fun x => Heap.get x _) (RecIs.hh' (by assumption))).trans ?_; first | rfl | exact PtR.same_get (by assumption) (by assumption) (by assumption) | exact Sep.same_get (by assumption) (by assumption) 0 0 rfl rfl | exact Sep.same_get (by assumption) (by assumption) 0 1 rfl rfl | exact Sep.same_get (by assumption) (by assumption) 0 2 rfl rfl | exact Sep.same_get (by assumption) (by assumption) 0 3 rfl rfl | exact Sep.same_get (by assumption) (by assumption) 0 4 rfl rfl | exact Sep.same_get (by assumption) (by assumption) 1 0 rfl rfl | exact Sep.same_get (by assumption) (by assumption) 1 1 rfl rfl | exact Sep.same_get (by assumption) (by assumption) 1 2 rfl rfl | exact Sep.same_get (by assumption) (by assumption) 1 3 rfl rfl | exact Sep.same_get (by assumption) (by assumption) 1 4 rfl rfl | exact Sep.same_get (by assumption) (by assumption) 2 0 rfl rfl | exact Sep.same_get (by assumption) (by assumption) 2 1 rfl rfl | exact Sep.same_get (by assumption) (by assumption) 2 2 rfl rfl | exact Sep.same_get (by assumption) (by assumption) 2 3 rfl rfl | exact Sep.same_get (by assumption) (by assumption) 2 4 rfl rfl | exact Sep.same_get (by assumption) (by assumption) 3 0 rfl rfl | exact Sep.same_get (by assumption) (by assumption) 3 1 rfl rfl | exact Sep.same_get (by assumption) (by assumption) 3 2 rfl rfl | exact Sep.same_get (by assumption) (by assumption) 3 3 rfl rfl | exact Sep.same_get (by assumption) (by assumption) 3 4 rfl rfl | exact Sep.same_get (by assumption) (by assumption) 4 0 rfl rfl | exact Sep.same_get (by assumption) (by assumption) 4 1 rfl rfl | exact Sep.same_get (by assumption) (by assumption) 4 2 rfl rfl | exact Sep.same_get (by assumption) (by assumption) 4 3 rfl rfl | exact Sep.same_get (by assumption) (by assumption) 4 4 rfl rfl)⟩, ?_⟩)) ?_) ?_)
      | refine seqK_n ?_
      | refine blockK_n ?_
      | refine invK_n ?_)
    obtain ⟨X', e1, e2, e3, e4⟩ := still_step (by assumption) (by assumption) hs hX hO hlt
    refine ⟨_, ?_, _, ⟨k + 1, _, _, X', rfl, rfl, ?_, e1, e2, e3, e4⟩, EnvB.of rfl⟩ <;> omega
  · obtain rfl : k = G.length := by omega
    rw [List.take_of_length_le (by simp)] at hO
    have hn1 : ∃ G1 : List LnC, LnsR (Now h2) u G1 ∧ G1.map lnOf = G.map lnOf ∧ G1.map Prod.fst = X.map Prod.fst := OwnX.lns hU hO (fun p hp => hs.get p (by simpa using hp))
    obtain ⟨G1, hv2, hG1, _⟩ := hn1
    have hG1l : G1.length ≤ 25 := by
      have := congrArg List.length hG1
      simp only [List.length_map] at this
      omega
    have hG1c : ∀ g ∈ G1, g.2.length ≤ 30 := by
      intro g hg
      have hm : lnOf g ∈ G.map lnOf := by rw [← hG1]; exact List.mem_map_of_mem hg
      obtain ⟨g', hg', e⟩ := List.mem_map.1 hm
      have := congrArg (fun l : Ln => l.cells.length) e
      have h5 := g2 g' hg'
      simp only [lnOf] at this
      omega
    by_cases hok : okB (G.map lnOf) n
    · have hok1 : okB (G1.map lnOf) n := by rw [hG1]; exact hok
      have ok0 := okB_ok hok g2 hr
      have hSL0 : ShortL (G.map lnOf) := by
        intro l hl
        obtain ⟨g, hg, rfl⟩ := List.mem_map.1 hl
        have := g2 g hg
        show g.2.length ≤ 1000
        omega
      repeat' (first
        | (refine K_ops ?_; first
          | refine W_fastB rfl ?_
          | refine W_nil ?_
          | (refine K_guard ?_; first
            | refine W_guard_on rfl ?_
          )
          | (refine K_call ?_; first
            | (refine W_callsN 11 rfl (w11y hv2 hG1l hG1c hn hok1) rfl ?_; rintro _ hX2 ⟨ida, ua, Ga, ka, rfl, hVa, t⟩; replace hs := hs.call t; try simp only [cell_back, attr_back, List.set_cons_zero, List.set_cons_succ, List.eraseIdx_cons_succ, List.eraseIdx_zero, List.tail_cons, List.nil_append, List.cons_append] at hs; rw [hG1] at hs hVa; replace hs := hs.freeze 1 rfl; (try simp only [List.eraseIdx_cons_succ, List.eraseIdx_cons_zero, List.eraseIdx_zero, List.tail_cons] at hs); replace hVa := hVa.mono (InP.add (Now h) ka); refine W_norm rfl ?_)
            | (refine W_callsN 11 rfl (w11y ((hv.mono (Ro.le_add _ _)).now hs) g1 g2 hn hok) rfl ?_; rintro _ hX2 ⟨idb, ub, Gb, kb, rfl, hVb, t⟩; replace hs := hs.call t; try simp only [cell_back, attr_back, List.set_cons_zero, List.set_cons_succ, List.eraseIdx_cons_succ, List.eraseIdx_zero, List.tail_cons, List.nil_append, List.cons_append] at hs; replace hs := hs.freeze 1 rfl; (try simp only [List.eraseIdx_cons_succ, List.eraseIdx_cons_zero, List.eraseIdx_zero, List.tail_cons] at hs); replace hVb := hVb.mono (InP.add ((Now h).add ka) kb); replace hVa := hVa.more (k := kb); refine W_norm rfl ?_)
          )
          | (refine W_lenL rfl (by first | assumption | exact SlR.ln (by assumption) | exact AccS.ln (by assumption) | exact OwnS.ln (by assumption) | exact VwO.ln (by assumption) | exact OwnP.ln (by assumption) | exact Len.sl) ?_; refine W_norm rfl ?_)
          | (refine K_pick ?_; first
            | refine W_pick_f rfl rfl (W_norm rfl ?_)
          )
        )
        | (refine K_code ?_; first
          | ((refine W_seq ?_; refine (w8_mine (M := [vwO idb ub .nilp (newV (G.map lnOf) n), vwO ida ua .nilp (newV (G.map lnOf) n)]) (X := X) ⟨rfl, rfl, trivial⟩ (hs.reord (fun a => by simp only [List.flatten_cons, List.flatten_nil, List.count_append, List.count_nil, hpOf_append, hpOf_cons, hpOf_nil, List.append_nil, List.eraseIdx_cons_succ, List.eraseIdx_zero, List.tail_cons] <;> omega)) hU hO hSL0 (by omega)).mono ?_))
          | refine W_seq ?_
          | refine W_ops ?_
          | refine W_cond_f rfl ?_
          | (refine W_cond rfl (fun hc => ?_) (fun hc => ?_) <;> (try rw [hc]) <;> (try simp only [decide_eq_true_eq, decide_eq_false_iff_not, beq_iff_eq, beq_eq_false_iff_ne, bne_iff_ne, bne_eq_false_iff_eq, Bool.not_eq_true', Bool.not_eq_false', Int.not_lt, Int.not_le, ne_eq, reduceCtorEq, not_true_eq_false, not_false_eq_true, Decidable.not_not] at hc) <;> (try (exfalso; omega)) <;> (try refine W_norm rfl ?_))
          | refine W_skip ?_
          | refine W_exit ?_
        )
        | refine seqK_n ?_
        | refine seqK_x ?_
        | refine blockK_e ?_
        | refine invK_x ?_)
      obtain ⟨RR, hRN, hVa, hVb, hRe⟩ : ∃ RR : Ro, (Now h).le RR ∧ VwR RR ua .nilp (newV (G.map lnOf) n) Ga ∧ VwR RR ub .nilp (newV (G.map lnOf) n) Gb ∧ RR = ((Now h).add ka).add kb :=
        ⟨_, fun _ _ k => Ro.le_add _ _ _ _ (Ro.le_add _ _ _ _ k), hVa, hVb, rfl⟩
      rw [← hRe]
      clear hs hU hO hX hv2 hRe
      rintro _ _ h3 ⟨rfl, _, ⟨rfl, hs⟩, us3, he⟩
      refine seqK_n ?_
      refine W_spell he rfl ?_
      clear he
      repeat' (first
        | (refine K_ops ?_; first
          | refine W_fastB rfl ?_
          | refine W_nil ?_
        )
        | (refine K_code ?_; first
          | refine W_seq ?_
          | refine W_ops ?_
          | refine W_block ?_
        )
        | refine seqK_n ?_)
      obtain ⟨V0, hV0⟩ : ∃ V0, V0 = newV (G.map lnOf) n := ⟨_, rfl⟩
      rw [← hV0] at hs hVa hVb ok0
      have hV0h : V0.h = n := by rw [hV0]; rfl
      refine W_loopB [6, 15, 17, 18, 19, 20, 21, 22, 23, 24, 118, 119, 120, 121, 122, 123, 124, 125, 126, 127, 128, 129, 130, 131, 132, 133, 134, 135, 136, 137, 138, 139, 140, 141, 142, 143, 144, 145, 146, 147, 148, 149, 150, 151, 152, 153, 154, 155, 156, 157, 158, 159, 160, 161, 162, 163, 164, 165, 166, 167, 168, 169, 170, 171, 172, 173, 174, 175, 176, 177, 178, 179, 180, 181, 182, 183, 184, 185, 186, 187, 188, 189, 190, 191, 192, 193, 194, 195, 196, 197, 198, 199, 200, 201, 202, 203, 204, 205, 206, 207, 208, 209, 210, 211, 212, 213, 214, 215, 216, 217, 218, 219, 220, 221, 222, 223, 224, 225, 226, 227, 228, 229, 230, 231, 232, 233, 234, 235, 236, 237, 238, 239, 240, 241, 242, 243, 244, 245, 246, 247, 248, 249, 250, 251, 252, 253, 254, 255, 256, 257, 258, 259, 260, 261, 262, 263, 264, 265] [0, 1, 2, 3, 4, 5, 6, 7, 8, 9, 10, 11, 12, 13, 14, 15, 16, 17, 18, 19, 20, 21, 22, 23, 24, 25, 26, 27, 28, 29, 30, 31, 32, 33, 34, 35, 36, 37, 38, 39, 40, 41, 42, 43, 44, 45, 46, 47, 48, 49, 50, 51, 52, 53, 54, 55, 56, 57, 58, 59, 60, 61, 62, 63, 64, 65, 66, 67, 68, 69, 70, 71, 72, 73, 74, 75, 76, 77, 78, 79, 80, 81, 82, 83, 84, 85, 86, 87, 88, 89, 90, 91, 92, 93, 94, 95, 96, 97, 98, 99, 100, 101, 102, 103, 104, 105, 106, 107, 108, 109, 110, 111, 112, 113, 114, 115, 116, 117, 118, 119, 120, 121, 122, 123, 124, 125, 126, 127, 128, 129, 130, 131, 132, 133, 134, 135, 136, 137, 138, 139, 140, 141, 142, 143, 144, 145, 146, 147, 148, 149, 150, 151, 152, 153, 154, 155, 156, 157, 158, 159, 160, 161, 162, 163, 164, 165, 166, 167, 168, 169, 170, 171, 172, 173, 174, 175, 176, 177, 178, 179, 180, 181, 182, 183, 184, 185, 186, 187, 188, 189, 190, 191, 192, 193, 194, 195, 196, 197, 198, 199, 200, 201, 202, 203, 204, 205, 206, 207, 208, 209, 210, 211, 212, 213, 214, 215, 216, 217, 218, 219, 220, 221, 222, 223, 224, 225, 226, 227, 228, 229, 230, 231, 232, 233, 234, 235, 236, 237, 238, 239, 240, 241, 242, 243, 244, 245, 246, 247, 248, 249, 250, 251, 252, 253, 254, 255, 256, 257, 258, 259, 260, 261, 262, 263, 264, 265, 266] (fun n' sl h' => ∃ (k : Nat) (R : Ro) (V : Vw) (mka mkb : SV), sl = [(15, .sc (.int .i64 (k : Int)))] ∧ n' = AS.length - k ∧ k ≤ AS.length ∧ (Now h).le R ∧ OkV V ∧ V.h = n ∧ VwR R ua mka V Ga ∧ VwR R ub mkb V Gb ∧ Sep R [vwO idb ub mkb V, vwO ida ua mka V] h') ?_ ?_
      · refine ⟨_, _, ⟨0, RR, V0, .nilp, .nilp, rfl, rfl, Nat.zero_le _, hRN, ok0, hV0h, hVa, hVb, hs⟩, EnvB.of rfl⟩
      clear hs hVa hVb ok0 hV0h hV0 hRN
      rintro _ _ us _ h5 ⟨k, R, V, mka, mkb, rfl, rfl, hk, hRN, okV, hVh, hVa, hVb, hs⟩ he
      refine W_spell he rfl ?_
      clear he
      unfold m8_l24
      have hA1 : SlR actE R va AS := ha.mono hRN
      by_cases hlt3 : k < AS.length
      · obtain ⟨a, hA⟩ : ∃ a, a = AS.getD (k : Int).toNat actE.dflt := ⟨_, rfl⟩
        have hoa : okA a := by rw [hA, Int.toNat_natCast]; exact hao _ (getD_mem' hlt3)
        have okv := actV_ok okV a
        have hvh : (actV V a).h = n := by rw [actV_h]; exact hVh
        obtain ⟨sn1, sn2, sn3⟩ := seen_facts okv
        have t2 := okv.t2
        have t1 := okv.t1
        have t0 := okv.t0
        have y1 := okv.y1
        have lb := okv.l.big
        have hh1 := okv.l.h1
        have hh2 := okv.l.h2
        rw [hvh] at hh1 hh2 t2
        repeat' (first
          | (refine K_ops ?_; first
            | refine W_fastB rfl ?_
            | refine W_nil ?_
            | (refine W_lenL rfl (by first | assumption | exact SlR.ln (by assumption) | exact AccS.ln (by assumption) | exact OwnS.ln (by assumption) | exact VwO.ln (by assumption) | exact OwnP.ln (by assumption) | exact Len.sl) ?_; refine W_norm rfl ?_)
          )
          | (refine K_code ?_; first
            | ((refine W_seq ?_; refine (w8_two (M := []) (v := V) (ida := ida) (idb := idb) (a := a) hA ⟨rfl, rfl, rfl, rfl, rfl, trivial⟩ hs hVa hVb okV hA1 hlt3 hoa).mono ?_))
            | refine W_seq ?_
            | refine W_ops ?_
            | (refine W_cond rfl (fun hc => ?_) (fun hc => ?_) <;> (try rw [hc]) <;> (try simp only [decide_eq_true_eq, decide_eq_false_iff_not, beq_iff_eq, beq_eq_false_iff_ne, bne_iff_ne, bne_eq_false_iff_eq, Bool.not_eq_true', Bool.not_eq_false', Int.not_lt, Int.not_le, ne_eq, reduceCtorEq, not_true_eq_false, not_false_eq_true, Decidable.not_not] at hc) <;> (try (exfalso; omega)) <;> (try refine W_norm rfl ?_))
            | refine W_skip ?_
            | refine W_block ?_
          )
          | refine seqK_n ?_)
        clear hs hVa hVb
        rintro _ _ h6 ⟨rfl, _, ⟨R2, mka2, mkb2, rfl, hle2, hVa, hVb, hs⟩, us3, he⟩
        refine seqK_n ?_
        refine W_spell he rfl ?_
        clear he
        repeat' (first
          | (refine K_ops ?_; first
            | refine W_fastB rfl ?_
            | refine W_nil ?_
            | (refine K_call ?_; first
              | (refine W_callsN 22 rfl (w22 (v := actV V a) (id := ida) (hs.front 1 rfl) hVa okv) rfl ?_; rintro _ hX ⟨u, c, X, rfl, hU, hO, hs⟩; (try simp only [List.eraseIdx_cons_succ, List.eraseIdx_cons_zero, List.eraseIdx_zero, List.tail_cons] at hs); refine W_norm rfl ?_)
            )
          )
          | (refine K_code ?_; first
            | ((refine W_seq ?_; refine (w8_seen (M := [vwO ida ua mka2 (actV V a), vwO idb ub mkb2 (actV V a)]) (X := X) ⟨rfl, rfl, trivial⟩ hs hU hO sn3 (by rw [own_len hO]; omega)).mono ?_))
            | refine W_seq ?_
            | refine W_ops ?_
          )
          | refine seqK_n ?_)
        have hul := hU.ln
        rw [List.length_map, own_len hO] at hul
        clear hs hU hO
        rintro _ _ h7 ⟨rfl, _, ⟨rfl, hs⟩, us4, he⟩
        refine seqK_n ?_
        refine W_spell he rfl ?_
        clear he
        repeat' (first
          | (refine K_ops ?_; first
            | refine W_fastB rfl ?_
            | refine W_nil ?_
            | (refine K_guard ?_; first
              | refine W_guard_on rfl ?_
              | (refine W_guardF rfl (fun hc => ?_) (fun hc => ?_) <;> (try rw [hc]) <;> (try simp only [decide_eq_true_eq, decide_eq_false_iff_not, beq_iff_eq, beq_eq_false_iff_ne, bne_iff_ne, bne_eq_false_iff_eq, Bool.not_eq_true', Bool.not_eq_false', Int.not_lt, Int.not_le, ne_eq, reduceCtorEq, not_true_eq_false, not_false_eq_true, Decidable.not_not] at hc) <;> (try (exfalso; omega)) <;> (try refine W_norm rfl ?_))
            )
            | (refine K_call ?_; first
              | (refine W_callsN 14 rfl (w14 (v := actV V a) (id := ida) hs hVa.ln okv.l.len) rfl ?_; rintro _ hX ⟨rfl, rfl⟩; refine W_norm rfl ?_)
              | (refine W_callsN 14 rfl (w14 (v := actV V a) (id := idb) (hs.front 1 rfl) hVb.ln okv.l.len) rfl ?_; rintro _ hX ⟨rfl, rfl⟩; refine W_norm rfl ?_)
              | (refine W_callsN 16 rfl (w16 (v := actV V a) (id := ida) hs hVa okv) rfl ?_; rintro _ hX ⟨rfl, hs⟩; refine W_norm rfl ?_)
              | (refine W_callsN 16 rfl (w16 (v := actV V a) (id := idb) (hs.front 1 rfl) hVb okv) rfl ?_; rintro _ hX ⟨rfl, hs⟩; (try simp only [List.eraseIdx_cons_succ, List.eraseIdx_cons_zero, List.eraseIdx_zero, List.tail_cons] at hs); refine W_norm rfl ?_)
              | (refine W_callsN 20 rfl (w20 (v := actV V a) (id := ida) (hs.front 1 rfl) hVa.ln okv.l.len) rfl ?_; rintro _ hX ⟨rfl, rfl⟩; refine W_norm rfl ?_)
              | (refine W_callsN 20 rfl (w20 (v := actV V a) (id := idb) hs hVb.ln okv.l.len) rfl ?_; rintro _ hX ⟨rfl, rfl⟩; refine W_norm rfl ?_)
            )
            | (refine W_lenL rfl (by first | assumption | exact SlR.ln (by assumption) | exact AccS.ln (by assumption) | exact OwnS.ln (by assumption) | exact VwO.ln (by assumption) | exact OwnP.ln (by assumption) | exact Len.sl) ?_; refine W_norm rfl ?_)
            | (refine K_bin ?_; first
              | (refine W_add rfl rfl (IntWalk.i64_in _ (by first | omega | (simp only [List.length_set, List.length_append, List.length_take, List.length_drop, List.length_replicate, List.length_cons, List.length_nil, decs_length, List.length_map]; omega))) ?_; refine W_norm rfl ?_)
            )
            | (refine K_pick ?_; first
              | refine W_pick_f rfl rfl (W_norm rfl ?_)
            )
          )
          | (refine K_code ?_; first
            | refine W_seq ?_
            | refine W_ops ?_
            | (refine W_cond rfl (fun hc => ?_) (fun hc => ?_) <;> (try rw [hc]) <;> (try simp only [decide_eq_true_eq, decide_eq_false_iff_not, beq_iff_eq, beq_eq_false_iff_ne, bne_iff_ne, bne_eq_false_iff_eq, Bool.not_eq_true', Bool.not_eq_false', Int.not_lt, Int.not_le, ne_eq, reduceCtorEq, not_true_eq_false, not_false_eq_true, Decidable.not_not] at hc) <;> (try (exfalso; omega)) <;> (try refine W_norm rfl ?_))
            | refine W_skip ?_
          )
          | refine seqK_n ?_
          | refine blockK_n ?_
          | refine invK_n ?_)
        refine ⟨_, ?_, _, ⟨k + 1, R2, actV V a, mka2, mkb2, rfl, rfl, ?_, fun _ _ k => hle2 _ _ (hRN _ _ k), okv, hvh, hVa, hVb, hs⟩, EnvB.of rfl⟩
        · omega
        · omega
      · repeat' (first
          | (refine K_ops ?_; first
            | refine W_fastB rfl ?_
            | refine W_nil ?_
            | (refine K_call ?_; first
              | (refine W_callsN 10 rfl (w10g _) rfl ?_; rintro _ h ⟨rfl, rfl⟩; refine W_norm rfl ?_)
            )
            | (refine W_lenL rfl (by first | assumption | exact SlR.ln (by assumption) | exact AccS.ln (by assumption) | exact OwnS.ln (by assumption) | exact VwO.ln (by assumption) | exact OwnP.ln (by assumption) | exact Len.sl) ?_; refine W_norm rfl ?_)
          )
          | (refine K_code ?_; first
            | refine W_seq ?_
            | refine W_ops ?_
            | (refine W_cond rfl (fun hc => ?_) (fun hc => ?_) <;> (try rw [hc]) <;> (try simp only [decide_eq_true_eq, decide_eq_false_iff_not, beq_iff_eq, beq_eq_false_iff_ne, bne_iff_ne, bne_eq_false_iff_eq, Bool.not_eq_true', Bool.not_eq_false', Int.not_lt, Int.not_le, ne_eq, reduceCtorEq, not_true_eq_false, not_false_eq_true, Decidable.not_not] at hc) <;> (try (exfalso; omega)) <;> (try refine W_norm rfl ?_))
            | refine W_ret ?_
            | refine W_exit ?_
          )
          | refine seqK_n ?_
          | refine seqK_x ?_
          | refine blockK_e ?_
          | refine invK_x ?_
          | (refine fnK_r rfl ?_; try dsimp only [gd_z, gd_s]))
        exact ⟨_, rfl, rfl⟩
    · have hok1 : ¬ okB (G1.map lnOf) n := by rw [hG1]; exact hok
      repeat' (first
        | (refine K_ops ?_; first
          | refine W_fastB rfl ?_
          | refine W_nil ?_
          | (refine K_guard ?_; first
            | refine W_guard_on rfl ?_
            | refine W_guard_off rfl rfl (W_norm rfl ?_)
          )
          | (refine K_call ?_; first
            | (refine W_callsN 11 rfl (w11n hv2 hG1l hG1c hn hok1) rfl ?_; rintro _ hX2 ⟨rfl, t⟩; replace hs := hs.call t; try simp only [cell_back, attr_back, List.set_cons_zero, List.set_cons_succ, List.eraseIdx_cons_succ, List.eraseIdx_zero, List.tail_cons, List.nil_append, List.cons_append] at hs; refine W_norm rfl ?_)
            | (refine W_callsN 11 rfl (w11n (hv.now hs) g1 g2 hn hok) rfl ?_; rintro _ hX2 ⟨rfl, t⟩; replace hs := hs.call t; try simp only [cell_back, attr_back, List.set_cons_zero, List.set_cons_succ, List.eraseIdx_cons_succ, List.eraseIdx_zero, List.tail_cons, List.nil_append, List.cons_append] at hs; refine W_norm rfl ?_)
            | (refine W_callsN 10 rfl (w10g _) rfl ?_; rintro _ h ⟨rfl, rfl⟩; refine W_norm rfl ?_)
          )
          | (refine W_lenL rfl (by first | assumption | exact SlR.ln (by assumption) | exact AccS.ln (by assumption) | exact OwnS.ln (by assumption) | exact VwO.ln (by assumption) | exact OwnP.ln (by assumption) | exact Len.sl) ?_; refine W_norm rfl ?_)
          | (refine K_pick ?_; first
            | refine W_pick_t rfl rfl (W_norm rfl ?_)
          )
        )
        | (refine K_code ?_; first
          | refine W_seq ?_
          | refine W_ops ?_
          | refine W_cond_t rfl ?_
          | (refine W_cond rfl (fun hc => ?_) (fun hc => ?_) <;> (try rw [hc]) <;> (try simp only [decide_eq_true_eq, decide_eq_false_iff_not, beq_iff_eq, beq_eq_false_iff_ne, bne_iff_ne, bne_eq_false_iff_eq, Bool.not_eq_true', Bool.not_eq_false', Int.not_lt, Int.not_le, ne_eq, reduceCtorEq, not_true_eq_false, not_false_eq_true, Decidable.not_not] at hc) <;> (try (exfalso; omega)) <;> (try refine W_norm rfl ?_))
          | refine W_ret ?_
          | refine W_exit ?_
        )
        | refine seqK_n ?_
        | refine seqK_r ?_
        | refine seqK_x ?_
        | refine blockK_e ?_
        | refine invK_x ?_
        | (refine fnK_r rfl ?_; try dsimp only [gd_z, gd_s]))
      exact ⟨_, rfl, rfl⟩
theorem openActs2 {H : Heap} {v : SV} (o : OpenS H (.slice 50 4 [.int .u8, .int .i64, .int .i64, .str]) v) : ∃ AS : List ActV, SlR actE (Now H) v AS ∧ AS.length ≤ 2 ^ 63 - 1 ∧ ∀ a ∈ AS, okA a := by
  obtain ⟨L, h1, h2, h3⟩ := o.sl (enc := actE.enc) (R := okA) actE.len (fun l o => by
    simp only [OpenL, OpenS] at o
    obtain ⟨_, _, rfl, ⟨d, rfl, hd⟩, _, _, rfl, ⟨x, rfl, hx⟩, _, _, rfl, ⟨y, rfl, hy⟩, _, _, rfl, ⟨t, rfl, ht⟩, rfl⟩ := o
    exact ⟨⟨d, x, y, t⟩, rfl, hx, hy, ht⟩)
  exact ⟨L, h1, h3, h2⟩
theorem walk_copyStill (H : Heap) (avs : List AV) (hwf : H.l.length = H.n) (hs : Sub (HL Tryd.prog.globals.size jxLs) H) (ho : OpenA H [(false, [.slice 27 3 [.slice 71 7 [.int .i32, .int .u8, .int .u16, .int .u8, .int .u32, .int .u8, .int .u32], .bool, .bool]]), (false, [.int .i64]), (false, [.slice 50 4 [.int .u8, .int .i64, .int .i64, .str]])] avs) : W DD (.call 8 avs H) (fun _ vs _ => vs = [.sc (.bool true)]) := by
  simp only [OpenA] at ho
  obtain ⟨_, _, _, hk, rfl, o1, _, _, _, hk2, rfl, o2, _, _, _, hk3, rfl, o3, rfl⟩ := ho
  cases hk; cases hk2; cases hk3
  simp only [OpenS] at o2
  obtain ⟨n, rfl, e1⟩ := o2
  obtain ⟨G, hG, h1, h2, h3⟩ := openLines o1
  obtain ⟨AS, hA, h4, h5⟩ := openActs2 o3
  exact (w8 hG h1 h2 h3 e1 hA h4 h5).mono fun _ _ _ ⟨v, hv, h3⟩ => by rw [hv, h3]
end Go.Proofs.YtbkhjpclnfljbaaDoor
