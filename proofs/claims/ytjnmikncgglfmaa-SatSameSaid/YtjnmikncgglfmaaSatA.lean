/- The walks of package sat, and of its reference, but products and quotients. -/
import Derived.Test.YtjnmikncgglfmaaRows
import Derived.Test.YtjnmikncgglfmaaSatPlain
import Derived.WalkKit
import Derived.WalkSpells
import Derived.WalkLawsBesides
import Derived.Below
import Derived.Lib.Hide
namespace Go.Proofs.Ytjnmikncgglfmaa
open Go.RowKit SatPlain

/-- what an int64 is -/
def I64 (n : Int) : Prop := -9223372036854775808 ≤ n ∧ n ≤ 9223372036854775807
theorem ret_int {k : IntKind} {a b : Int} (h : a = b) : Ending.returned (.int k a) = .returned (.int k b) := by rw [h]
theorem I64.clip (n : Int) : I64 (clip n) := by have := clip_lo n; have := clip_hi n; exact ⟨by omega, by omega⟩

theorem pClip_any (n : Int) (w : World) : Calls Try.prog 11 #[.int .i64 n] w fun e w' => e = .returned (.int .i64 (clip n)) ∧ w = w' := by
  by_cases h0 : n < 0
  · rw [clip_neg (by omega)]
    go_enter Try.func11, Try.ntmps11
    go_wp2
    go_ret
    exact ⟨rfl, rfl⟩
  by_cases h1 : 4611686018427387904 < n
  · rw [clip_big (by omega)]
    go_enter Try.func11, Try.ntmps11
    go_wp2
    go_ret
    exact ⟨rfl, rfl⟩
  · rw [clip_of (by omega) (by omega)]
    go_enter Try.func11, Try.ntmps11
    go_wp2
    go_ret
    exact ⟨rfl, rfl⟩
theorem rClip_any (n : Int) (w : World) : Calls Try.prog 12 #[.int .i64 n] w fun e w' => e = .returned (.int .i64 (clip n)) ∧ w = w' := by
  by_cases h0 : n < 0
  · rw [clip_neg (by omega)]
    go_enter Try.func12, Try.ntmps12
    go_wp2
    go_ret
    exact ⟨rfl, rfl⟩
  by_cases h1 : 4611686018427387904 < n
  · rw [clip_big (by omega)]
    go_enter Try.func12, Try.ntmps12
    go_wp2
    go_ret
    exact ⟨rfl, rfl⟩
  · rw [clip_of (by omega) (by omega)]
    go_enter Try.func12, Try.ntmps12
    go_wp2
    go_ret
    exact ⟨rfl, rfl⟩

theorem pAdd_any (a b : Int) (ha : I64 a) (hb : I64 b) (w : World) : Calls Try.prog 13 #[.int .i64 a, .int .i64 b] w fun e w' => e = .returned (.int .i64 (clip (a + b))) ∧ w = w' := by
  obtain ⟨a0, a1⟩ := ha
  obtain ⟨b0, b1⟩ := hb
  by_cases ho : 9223372036854775807 < a + b
  · -- above
    have hs : wrap64 (a + b) = a + b - 18446744073709551616 := by unfold wrap64; omega
    have hs0 : wrap64 (a + b) < 0 := by omega
    have p1 : 0 < a := by omega
    have p2 : 0 < b := by omega
    rw [clip_big (by omega)]
    clear hs
    generalize hS : wrap64 (a + b) = S at *
    go_enter Try.func13, Try.ntmps13
    go_wp2_with fail
    go_ret
    exact ⟨rfl, rfl⟩
  by_cases hu : a + b < -9223372036854775808
  · have p1 : a < 0 := by omega
    have p2 : b < 0 := by omega
    rw [clip_neg (by omega)]
    go_enter Try.func13, Try.ntmps13
    go_wp2_with fail
    go_ret
    exact ⟨rfl, rfl⟩
  have r0 : -9223372036854775808 ≤ a + b := by omega
  have r1 : a + b ≤ 9223372036854775807 := by omega
  by_cases hn : a < 0 ∧ b < 0
  · obtain ⟨p1, p2⟩ := hn
    rw [clip_neg (by omega)]
    go_enter Try.func13, Try.ntmps13
    go_wp2_with fail
    go_ret
    exact ⟨rfl, rfl⟩
  have c := pClip_any (a + b) w
  by_cases p1 : a < 0
  · have p2 : 0 ≤ b := by omega
    clear hn
    go_enter Try.func13, Try.ntmps13
    go_wp2_with (go_at_call 11; refine c.mono ?_; rintro e w' ⟨rfl, rfl⟩)
    go_ret
    exact ⟨rfl, rfl⟩
  · by_cases p3 : 0 < a ∧ 0 < b
    · obtain ⟨p3, p4⟩ := p3
      have p5 : 0 ≤ a + b := by omega
      go_enter Try.func13, Try.ntmps13
      go_wp2_with (go_at_call 11; refine c.mono ?_; rintro e w' ⟨rfl, rfl⟩)
      go_ret
      exact ⟨rfl, rfl⟩
    · by_cases p4 : 0 < a
      · have p5 : b ≤ 0 := by omega
        clear p3 hn
        go_enter Try.func13, Try.ntmps13
        go_wp2_with (go_at_call 11; refine c.mono ?_; rintro e w' ⟨rfl, rfl⟩)
        go_ret
        exact ⟨rfl, rfl⟩
      · clear p3 hn
        go_enter Try.func13, Try.ntmps13
        go_wp2_with (go_at_call 11; refine c.mono ?_; rintro e w' ⟨rfl, rfl⟩)
        go_ret
        exact ⟨rfl, rfl⟩

theorem pSub_any (a b : Int) (ha : I64 a) (hb : I64 b) (w : World) : Calls Try.prog 15 #[.int .i64 a, .int .i64 b] w fun e w' => e = .returned (.int .i64 (clip (a - b))) ∧ w = w' := by
  obtain ⟨a0, a1⟩ := ha
  obtain ⟨b0, b1⟩ := hb
  by_cases h : a ≤ b
  · rw [clip_neg (by omega)]
    go_enter Try.func15, Try.ntmps15
    go_wp2_with fail
    go_ret
    exact ⟨rfl, rfl⟩
  by_cases ho : 9223372036854775807 < a - b
  · have hs0 : wrap64 (a - b) < 0 := by unfold wrap64; omega
    rw [clip_big (by omega)]
    generalize hS : wrap64 (a - b) = S at *
    go_enter Try.func15, Try.ntmps15
    go_wp2_with fail
    go_ret
    exact ⟨rfl, rfl⟩
  · have r0 : 0 ≤ a - b := by omega
    have r1 : a - b ≤ 9223372036854775807 := by omega
    have c := pClip_any (a - b) w
    go_enter Try.func15, Try.ntmps15
    go_wp2_with (go_at_call 11; refine c.mono ?_; rintro e w' ⟨rfl, rfl⟩)
    go_ret
    exact ⟨rfl, rfl⟩

theorem rAdd_any (a b : Int) (ha : I64 a) (hb : I64 b) (w : World) : Calls Try.prog 14 #[.int .i64 a, .int .i64 b] w fun e w' => e = .returned (.int .i64 (clip (a + b))) ∧ w = w' := by
  obtain ⟨a0, a1⟩ := ha
  obtain ⟨b0, b1⟩ := hb
  by_cases p1 : 0 < a
  · by_cases h : 4611686018427387904 - a < b
    · rw [clip_big (by omega)]
      go_enter Try.func14, Try.ntmps14
      go_wp2_with fail
      go_ret
      exact ⟨rfl, rfl⟩
    · have c := rClip_any (a + b) w
      go_enter Try.func14, Try.ntmps14
      go_wp2_with (go_at_call 12; refine c.mono ?_; rintro e w' ⟨rfl, rfl⟩)
      go_ret
      exact ⟨rfl, rfl⟩
  by_cases p2 : a < 0
  · by_cases p3 : b < 0
    · rw [clip_neg (by omega)]
      go_enter Try.func14, Try.ntmps14
      go_wp2_with fail
      go_ret
      exact ⟨rfl, rfl⟩
    · have c := rClip_any (a + b) w
      go_enter Try.func14, Try.ntmps14
      go_wp2_with (go_at_call 12; refine c.mono ?_; rintro e w' ⟨rfl, rfl⟩)
      go_ret
      exact ⟨rfl, rfl⟩
  · have c := rClip_any (a + b) w
    go_enter Try.func14, Try.ntmps14
    go_wp2_with (go_at_call 12; refine c.mono ?_; rintro e w' ⟨rfl, rfl⟩)
    go_ret
    exact ⟨rfl, rfl⟩

theorem rSub_any (a b : Int) (ha : I64 a) (hb : I64 b) (w : World) : Calls Try.prog 16 #[.int .i64 a, .int .i64 b] w fun e w' => e = .returned (.int .i64 (clip (a - b))) ∧ w = w' := by
  have ha' := ha
  obtain ⟨a0, a1⟩ := ha
  obtain ⟨b0, b1⟩ := hb
  by_cases h : a ≤ b
  · rw [clip_neg (by omega)]
    go_enter Try.func16, Try.ntmps16
    go_wp2_with fail
    go_ret
    exact ⟨rfl, rfl⟩
  by_cases p1 : 0 ≤ a
  · by_cases p2 : b < 0
    · have c1 := rAdd_any (-(b + 1)) 1 ⟨by omega, by omega⟩ ⟨by omega, by omega⟩ w
      have c2 := rAdd_any a (clip (-(b + 1) + 1)) ha' (I64.clip _) w
      have e : clip (a + clip (-(b + 1) + 1)) = clip (a - b) := by
        by_cases hb : -b ≤ 4611686018427387904
        · rw [clip_of (n := -(b + 1) + 1) (by omega) (by omega)]; congr 1; omega
        · rw [clip_big (n := -(b + 1) + 1) (by omega), clip_big (by omega), clip_big (by omega)]
      rw [e] at c2
      clear e ha'
      generalize clip (-(b + 1) + 1) = B at *
      go_enter Try.func16, Try.ntmps16
      go_wp2_with fail
      refine c1.mono ?_
      rintro e w' ⟨rfl, rfl⟩
      go_wp2_with fail
      refine c2.mono ?_
      rintro e w' ⟨rfl, rfl⟩
      go_wp2_with fail
      go_ret
      exact ⟨rfl, rfl⟩
    · have c := rClip_any (a - b) w
      clear ha'
      go_enter Try.func16, Try.ntmps16
      go_wp2_with (go_at_call 12; refine c.mono ?_; rintro e w' ⟨rfl, rfl⟩)
      go_ret
      exact ⟨rfl, rfl⟩
  · have c := rClip_any (a - b) w
    clear ha'
    go_enter Try.func16, Try.ntmps16
    go_wp2_with (go_at_call 12; refine c.mono ?_; rintro e w' ⟨rfl, rfl⟩)
    go_ret
    exact ⟨rfl, rfl⟩
end Go.Proofs.Ytjnmikncgglfmaa
