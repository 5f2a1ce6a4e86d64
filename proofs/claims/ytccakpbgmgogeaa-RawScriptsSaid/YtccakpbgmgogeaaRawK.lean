/- The walk of raw's Put: what it refuses. -/
import Derived.Test.YtccakpbgmgogeaaRawJ
namespace Go.Proofs.Ytccakpbgmgogeaa
open Go.RowKit RawPlain

theorem put_fin (x : E) (w : World) (C1 C2 : Array Value) (h : ¬ (isOp x ∨ isStep x)) : PutPost x w (.returned (.tuple #[.string (bs []), .int .i64 2])) ((w.alloc (.cells C1 26)).alloc (.cells C2 24)) := by
  have hx : putS x = [] ∧ putN x = 2 := by
    unfold putS putN putL
    rw [if_neg (fun k => h (.inl k)), if_neg (fun k => h (.inr k))]; exact ⟨rfl, rfl⟩
  exact ⟨by rw [hx.1, hx.2], ((Below.refl w.heap.size w).alloc (Nat.le_refl _) _).alloc (by simp) _⟩
theorem put_no2 (x : E) (hw : x.Wf) (h : ¬ (isOp x ∨ isStep x)) (hk : x.kind = 2) (w : World) :
    Calls Try.prog 8 #[.agg (ev x).toArray] w (PutPost x w) := by
  have HF := Lib.hid (fun C1 C2 => put_fin x w C1 C2 h)
  have HN := Lib.hid h
  obtain ⟨b1, b2, b3, b4, b5, b6, b7, b8, b9, b10, b11, b12, b13, b14, b15, b16, b17, b18⟩ := hw
  obtain ⟨K, T, C, H, A, B, V, W, M⟩ := x
  simp only at *
  subst hk
  clear h b1 b2
  have ct := fun w => byteful_any W w
  show Calls _ _ #[.agg #[.int .u8 2, .int .i64 T, .int .u8 C, .int .u64 H, .int .i64 A, .int .i64 B, .int .u64 V, .int .i64 W, .int .u8 M]] w _
  by_cases hW : 0 ≤ W ∧ W ≤ 255
  · rw [decide_eq_true hW.1, decide_eq_true hW.2] at ct
    by_cases hT : T = 0
    case neg =>
      go_enter Try.func8, Try.ntmps8
      go_wp2_with (go_at_call 19; refine (ct _).mono ?_; rintro e w' ⟨rfl, rfl⟩)
      all_goals
        go_ret2
        exact HF.out _ _
    by_cases hC : C = 0
    case neg =>
      go_enter Try.func8, Try.ntmps8
      go_wp2_with (go_at_call 19; refine (ct _).mono ?_; rintro e w' ⟨rfl, rfl⟩)
      all_goals
        go_ret2
        exact HF.out _ _
    by_cases hH : H = 0
    case neg =>
      go_enter Try.func8, Try.ntmps8
      go_wp2_with (go_at_call 19; refine (ct _).mono ?_; rintro e w' ⟨rfl, rfl⟩)
      all_goals
        go_ret2
        exact HF.out _ _
    by_cases hA : A = 0
    case neg =>
      go_enter Try.func8, Try.ntmps8
      go_wp2_with (go_at_call 19; refine (ct _).mono ?_; rintro e w' ⟨rfl, rfl⟩)
      all_goals
        go_ret2
        exact HF.out _ _
    by_cases hB : B = 0
    case neg =>
      go_enter Try.func8, Try.ntmps8
      go_wp2_with (go_at_call 19; refine (ct _).mono ?_; rintro e w' ⟨rfl, rfl⟩)
      all_goals
        go_ret2
        exact HF.out _ _
    by_cases hV : V = 0
    case neg =>
      go_enter Try.func8, Try.ntmps8
      go_wp2_with (go_at_call 19; refine (ct _).mono ?_; rintro e w' ⟨rfl, rfl⟩)
      all_goals
        go_ret2
        exact HF.out _ _
    exact absurd (.inr ⟨rfl, hW.1, by show W < 256; omega, hT, hC, hH, hA, hB, hV⟩) HN.out
  · have hf : (decide (0 ≤ W) && decide (W ≤ 255)) = false := by rw [← Bool.decide_and, decide_eq_false_iff_not]; exact hW
    rw [hf] at ct
    clear hf hW
    go_enter Try.func8, Try.ntmps8
    go_wp2_with (go_at_call 19; refine (ct _).mono ?_; rintro e w' ⟨rfl, rfl⟩)
    all_goals
      go_ret2
      exact HF.out _ _
theorem put_no1 (x : E) (hw : x.Wf) (h : ¬ (isOp x ∨ isStep x)) (hk : x.kind = 1) (w : World) :
    Calls Try.prog 8 #[.agg (ev x).toArray] w (PutPost x w) := by
  have HF := Lib.hid (fun C1 C2 => put_fin x w C1 C2 h)
  have HN := Lib.hid h
  obtain ⟨b1, b2, b3, b4, b5, b6, b7, b8, b9, b10, b11, b12, b13, b14, b15, b16, b17, b18⟩ := hw
  obtain ⟨K, T, C, H, A, B, V, W, M⟩ := x
  simp only at *
  subst hk
  clear h b1 b2
  have ct := fun w => byteful_any T w
  have ca := fun w => fours_any A w b9 b10
  have cb := fun w => fours_any B w b11 b12
  show Calls _ _ #[.agg #[.int .u8 1, .int .i64 T, .int .u8 C, .int .u64 H, .int .i64 A, .int .i64 B, .int .u64 V, .int .i64 W, .int .u8 M]] w _
  by_cases hW : W = 0
  case neg =>
    go_enter Try.func8, Try.ntmps8
    go_wp2_with (first | (go_at_call 19; refine (ct _).mono ?_; rintro e w' ⟨rfl, rfl⟩) | (go_at_call 20; (first | (with_reducible refine (ca _).mono ?_) | (with_reducible refine (cb _).mono ?_)); rintro e w' ⟨rfl, rfl⟩))
    all_goals
      go_ret2
      exact HF.out _ _
  subst hW
  by_cases hM : M = 0
  case neg =>
    go_enter Try.func8, Try.ntmps8
    go_wp2_with (first | (go_at_call 19; refine (ct _).mono ?_; rintro e w' ⟨rfl, rfl⟩) | (go_at_call 20; (first | (with_reducible refine (ca _).mono ?_) | (with_reducible refine (cb _).mono ?_)); rintro e w' ⟨rfl, rfl⟩))
    all_goals
      go_ret2
      exact HF.out _ _
  subst hM
  by_cases hT : 0 ≤ T ∧ T ≤ 255
  case neg =>
    rw [show (decide (0 ≤ T) && decide (T ≤ 255)) = false from by rw [← Bool.decide_and, decide_eq_false_iff_not]; exact hT] at ct
    go_enter Try.func8, Try.ntmps8
    go_wp2_with (first | (go_at_call 19; refine (ct _).mono ?_; rintro e w' ⟨rfl, rfl⟩) | (go_at_call 20; (first | (with_reducible refine (ca _).mono ?_) | (with_reducible refine (cb _).mono ?_)); rintro e w' ⟨rfl, rfl⟩))
    all_goals
      go_ret2
      exact HF.out _ _
  rw [decide_eq_true hT.1, decide_eq_true hT.2] at ct
  by_cases hA : four A
  case neg =>
    rw [decide_eq_false hA] at ca
    clear hA
    go_enter Try.func8, Try.ntmps8
    go_wp2_with (first | (go_at_call 19; refine (ct _).mono ?_; rintro e w' ⟨rfl, rfl⟩) | (go_at_call 20; (first | (with_reducible refine (ca _).mono ?_) | (with_reducible refine (cb _).mono ?_)); rintro e w' ⟨rfl, rfl⟩))
    all_goals
      go_ret2
      exact HF.out _ _
  rw [decide_eq_true hA] at ca
  by_cases hB : four B
  case neg =>
    rw [decide_eq_false hB] at cb
    clear hB
    go_enter Try.func8, Try.ntmps8
    go_wp2_with (first | (go_at_call 19; refine (ct _).mono ?_; rintro e w' ⟨rfl, rfl⟩) | (go_at_call 20; (first | (with_reducible refine (ca _).mono ?_) | (with_reducible refine (cb _).mono ?_)); rintro e w' ⟨rfl, rfl⟩))
    all_goals
      go_ret2
      exact HF.out _ _
  exact absurd (.inl ⟨rfl, hT.1, by show T < 256; omega, rfl, rfl, hA, hB⟩) HN.out
theorem put_no0 (x : E) (hw : x.Wf) (h : ¬ (isOp x ∨ isStep x)) (hk : x.kind ≠ 1 ∧ x.kind ≠ 2) (w : World) :
    Calls Try.prog 8 #[.agg (ev x).toArray] w (PutPost x w) := by
  have HF := Lib.hid (fun C1 C2 => put_fin x w C1 C2 h)
  have HN := Lib.hid h
  obtain ⟨b1, b2, b3, b4, b5, b6, b7, b8, b9, b10, b11, b12, b13, b14, b15, b16, b17, b18⟩ := hw
  obtain ⟨K, T, C, H, A, B, V, W, M⟩ := x
  simp only at *
  obtain ⟨k1, k2⟩ := hk
  clear h
  show Calls _ _ #[.agg #[.int .u8 K, .int .i64 T, .int .u8 C, .int .u64 H, .int .i64 A, .int .i64 B, .int .u64 V, .int .i64 W, .int .u8 M]] w _
  have e1 : (K == 1) = false := by rw [beq_eq_false_iff_ne]; exact k1
  have e2 : (K == 2) = false := by rw [beq_eq_false_iff_ne]; exact k2
  go_enter Try.func8, Try.ntmps8
  go_wp2_with (fail)
  all_goals
    go_ret2
    exact HF.out _ _
theorem put_full (x : E) (hw : x.Wf) (w : World) : Calls Try.prog 8 #[.agg (ev x).toArray] w (PutPost x w) := by
  by_cases h1 : isOp x
  · exact put_op x hw h1 w
  · by_cases h2 : isStep x
    · exact put_step x hw h2 w
    · have h : ¬ (isOp x ∨ isStep x) := fun h => h.elim h1 h2
      by_cases k1 : x.kind = 1
      · exact put_no1 x hw h k1 w
      · by_cases k2 : x.kind = 2
        · exact put_no2 x hw h k2 w
        · exact put_no0 x hw h ⟨k1, k2⟩ w
end Go.Proofs.Ytccakpbgmgogeaa
