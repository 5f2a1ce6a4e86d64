/- The walks of the statements on floats: an order, signs turned, greater numbers. -/
import Derived.Test.YthhlgdjpopdboaaRealI
namespace Go.Proofs.Ythhlgdjpopdboaa
open Go.RowKit FloatPlain Ieee

theorem isNaN_kind (a : Nat) : (kindI a = 0) ↔ isNaN a = true := by
  rw [kind_nan]; unfold isNaN; simp
theorem order_nan {a b : Nat} (ha : a < 2 ^ 64) (hb : b < 2 ^ 64) (h : kindI a = 0 ∨ kindI b = 0) : eqB a b = false ∧ ((kindI a == kindI b) = (cmpI a b == 0)) := by
  constructor
  · unfold eqB
    rw [isNaN_kind, isNaN_kind] at h
    rcases h with h | h <;> rw [h] <;> simp
  · rw [Bool.eq_iff_iff, beq_iff_eq, beq_iff_eq, cmpI_zero ha hb]
    by_cases h1 : kindI a = 0
    · by_cases h2 : kindI b = 0
      · rw [h1, h2, canon_nan.2 ((kind_nan a).1 h1), canon_nan.2 ((kind_nan b).1 h2)]; simp
      · rw [canon_nan.2 ((kind_nan a).1 h1)]
        constructor
        · intro e; exact absurd (e ▸ h1) h2
        · intro e; exact absurd ((kind_nan b).2 (canon_nan.1 e.symm)) h2
    · have h2 := h.resolve_left h1
      rw [canon_nan.2 ((kind_nan b).1 h2)]
      constructor
      · intro e; exact absurd (e.trans h2) h1
      · intro e; exact absurd ((kind_nan a).2 (canon_nan.1 e)) h1
theorem order_num {a b : Nat} (ha : a < 2 ^ 64) (hb : b < 2 ^ 64) (h : ¬ kindI a = 0) (h' : ¬ kindI b = 0) : eqB a b = ((cmpI a b == 0) || ((kindI a == 4) && (kindI b == 4))) := by
  have e1 : (cmpI a b == 0) = decide ((a : Int) = b) := by
    rw [Bool.eq_iff_iff, beq_iff_eq, cmpI_zero ha hb, decide_eq_true_eq]
    rw [kind_nan] at h h'
    rw [canon_of (by omega), canon_of (by omega)]; omega
  rw [eqB_kind, e1]
  simp [h, h']
  rw [Bool.eq_iff_iff]; simp
/-- what is known of three words' order -/
def Cons (x y z : Int) : Prop := (-1 ≤ x ∧ x ≤ 1) ∧ (-1 ≤ y ∧ y ≤ 1) ∧ (-1 ≤ z ∧ z ≤ 1) ∧ (x ≤ 0 → y ≤ 0 → z ≤ 0) ∧ (x < 0 → y ≤ 0 → z < 0) ∧ (x ≤ 0 → y < 0 → z < 0)
theorem cons_of (a b c : Nat) : Cons (cmpI a b) (cmpI b c) (cmpI a c) := by
  refine ⟨cmpI_range _ _, cmpI_range _ _, cmpI_range _ _, ?_, ?_, ?_⟩
  · intro h1 h2; rw [cmpI_le] at *; omega
  · intro h1 h2; rw [cmpI_le] at h2; rw [cmpI_lt] at *; omega
  · intro h1 h2; rw [cmpI_le] at h1; rw [cmpI_lt] at *; omega
set_option maxRecDepth 100000 in
set_option maxHeartbeats 4000000 in
theorem order_walk (w : World) (a b c : Nat) (ha : a < 2 ^ 64) (hb : b < 2 ^ 64) (hc : c < 2 ^ 64) : Calls Try.prog 6 #[.int .u64 a, .int .u64 b, .int .u64 c] w fun e w' => e = .returned (.bool true) ∧ Below w.heap.size w w' := by
  have r1 := fun w => compare_any a b ha hb w
  have r2 := fun w => compare_any b c hb hc w
  have r3 := fun w => compare_any a c ha hc w
  have r4 := fun w => compare_any b a hb ha w
  have r5 := fun w => compare_any a a ha ha w
  have k1 := fun w => rKind_any a ha w
  have k2 := fun w => rKind_any b hb w
  have q := fun w => equal_any a b ha hb w
  have aw := fun w => awake_any w
  have con := cons_of a b c
  rw [cmpI_swap b a] at r4
  rw [cmpI_self] at r5
  have on := order_nan ha hb
  have om := order_num ha hb
  generalize cmpI a b = x at *
  generalize cmpI b c = y at *
  generalize cmpI a c = z at *
  generalize kindI a = k at *
  generalize kindI b = j at *
  generalize eqB a b = e at *
  clear ha hb hc
  have fin : (e = false ∧ k = 0 ∧ (k == j) = (x == 0)) ∨ (e = false ∧ ¬ k = 0 ∧ j = 0 ∧ (k == j) = (x == 0)) ∨ (¬ k = 0 ∧ ¬ j = 0 ∧ e = ((x == 0) || ((k == 4) && (j == 4)))) := by
    by_cases h1 : k = 0
    · exact .inl ⟨(on (.inl h1)).1, h1, (on (.inl h1)).2⟩
    · by_cases h2 : j = 0
      · exact .inr (.inl ⟨(on (.inr h2)).1, h1, h2, (on (.inr h2)).2⟩)
      · exact .inr (.inr ⟨h1, h2, om h1 h2⟩)
  clear on om
  go_enter Try.func6, Try.ntmps6
  go_wp2_with fail
  refine (r1 _).mono ?_
  rintro e w' ⟨rfl, rfl⟩
  go_wp2_with fail
  refine (r2 _).mono ?_
  rintro e w' ⟨rfl, rfl⟩
  go_wp2_with fail
  refine (r3 _).mono ?_
  rintro e w' ⟨rfl, rfl⟩
  clear r1 r2 r3
  obtain ⟨⟨x0, x1⟩, ⟨y0, y1⟩, ⟨z0, z1⟩, c1, c2, c3⟩ := con
  have C1 := Lib.hid c1
  have C2 := Lib.hid c2
  have C3 := Lib.hid c3
  clear c1 c2 c3
  go_upto_region 2 with fail
  go_cut [78] (fun v wx => v = .bool false ∧ wx = w)
  case first =>
    clear fin
    rcases (show x = -1 ∨ x = 0 ∨ x = 1 by omega) with rfl | rfl | rfl <;> rcases (show y = -1 ∨ y = 0 ∨ y = 1 by omega) with rfl | rfl | rfl <;> rcases (show z = -1 ∨ z = 0 ∨ z = 1 by omega) with rfl | rfl | rfl
    all_goals first
      | (exfalso; have := C1.out; have := C2.out; have := C3.out; omega)
      | (clear C1 C2 C3 x0 x1 y0 y1 z0 z1
         go_wp2_with fail
         refine (r4 _).mono ?_
         rintro e w' ⟨rfl, rfl⟩
         go_wp2_with fail
         refine (r5 _).mono ?_
         rintro e w' ⟨rfl, rfl⟩
         go_wp2_with fail
         go_meet
         exact ⟨rfl, rfl⟩)
  case rest =>
    obtain ⟨rfl, rfl⟩ := hcut
    clear C1 C2 C3 r4 r5 y0 y1 z0 z1
    rcases (show x = -1 ∨ x = 0 ∨ x = 1 by omega) with rfl | rfl | rfl
    all_goals
      clear x0 x1
      rcases fin with ⟨rfl, rfl, hk⟩ | ⟨rfl, h1, rfl, hk⟩ | ⟨h1, h2, rfl⟩
      · go_wp2_with fail
        refine (k1 _).mono ?_
        rintro e w' ⟨rfl, rfl⟩
        go_wp2_with fail
        refine (k2 _).mono ?_
        rintro e w' ⟨rfl, rfl⟩
        go_wp2_with fail
        refine (q _).mono ?_
        rintro e w' ⟨rfl, rfl⟩
        go_wp2_with fail
        refine (aw _).mono ?_
        rintro e w4 ⟨rfl, b4⟩
        go_wp2_with fail
        go_ret
        exact ⟨rfl, b4⟩
      · have h1' : (k == 0) = false := by rw [beq_eq_false_iff_ne]; exact h1
        clear h1
        go_wp2_with fail
        refine (k1 _).mono ?_
        rintro e w' ⟨rfl, rfl⟩
        go_wp2_with fail
        refine (k2 _).mono ?_
        rintro e w' ⟨rfl, rfl⟩
        go_wp2_with fail
        refine (q _).mono ?_
        rintro e w' ⟨rfl, rfl⟩
        go_wp2_with fail
        refine (aw _).mono ?_
        rintro e w4 ⟨rfl, b4⟩
        go_wp2_with fail
        go_ret
        exact ⟨rfl, b4⟩
      · have h1' : (k == 0) = false := by rw [beq_eq_false_iff_ne]; exact h1
        have h2' : (j == 0) = false := by rw [beq_eq_false_iff_ne]; exact h2
        clear h1 h2
        cases h4 : (k == 4) <;> cases h5 : (j == 4)
        all_goals
          rw [h4, h5] at q
          go_wp2_with fail
          refine (k1 _).mono ?_
          rintro e w' ⟨rfl, rfl⟩
          go_wp2_with fail
          refine (k2 _).mono ?_
          rintro e w' ⟨rfl, rfl⟩
          go_wp2_with fail
          refine (q _).mono ?_
          rintro e w' ⟨rfl, rfl⟩
          go_wp2_with fail
          refine (aw _).mono ?_
          rintro e w4 ⟨rfl, b4⟩
          go_wp2_with fail
          go_ret
          exact ⟨rfl, b4⟩

end Go.Proofs.Ythhlgdjpopdboaa
