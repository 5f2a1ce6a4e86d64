/- The known answers of the statements on tints. -/
import Derived.Test.YtcckppijabajdaaTintR
namespace Go.Proofs.Ytcckppijabajdaa
open Go.RowKit

theorem aw1 (w : World) (p g : Nat) (h : Tn w p g [0, 0, 0] 5) : Calls Try.prog 14 #[.pointer (some ⟨p, 0, none⟩), .int .i64 1] w fun e w' => e = .returned (.tuple #[.bool true, .int .i64 0]) ∧ Tn w' p g [0, 1, 0] 5 ∧ Only w w' p g := tShade_any w p g [0, 0, 0] 5 1 h
theorem aw2 (w : World) (p g : Nat) (h : Tn w p g [0, 1, 0] 5) : Calls Try.prog 14 #[.pointer (some ⟨p, 0, none⟩), .int .i64 1] w fun e w' => e = .returned (.tuple #[.bool false, .int .i64 0]) ∧ Tn w' p g [0, 1, 0] 5 ∧ Only w w' p g := tShade_any w p g [0, 1, 0] 5 1 h
theorem aw3 (w : World) (p g : Nat) (h : Tn w p g [0, 1, 0] 5) : Calls Try.prog 11 #[.pointer (some ⟨p, 0, none⟩), .int .i64 2] w fun e w' => e = .returned (.int .i64 0) ∧ Tn w' p g [0, 1, 2] 5 ∧ Only w w' p g := tBlack_any w p g [0, 1, 0] 5 2 h
theorem aw4 (w : World) (p g : Nat) (h : Tn w p g [0, 1, 2] 5) : Calls Try.prog 15 #[.pointer (some ⟨p, 0, none⟩), .int .i64 1] w fun e w' => e = .returned (.tuple #[.int .u8 1, .int .i64 0]) ∧ w = w' := tOf_any w p g [0, 1, 2] 5 1 h
theorem aw5 (w : World) (p g : Nat) (h : Tn w p g [0, 1, 2] 5) : Calls Try.prog 15 #[.pointer (some ⟨p, 0, none⟩), .int .i64 2] w fun e w' => e = .returned (.tuple #[.int .u8 2, .int .i64 0]) ∧ w = w' := tOf_any w p g [0, 1, 2] 5 2 h
theorem aw6 (w : World) (p g : Nat) (h : Tn w p g [0, 1, 2] 5) : Calls Try.prog 14 #[.pointer (some ⟨p, 0, none⟩), .int .i64 3] w fun e w' => e = .returned (.tuple #[.bool false, .int .i64 2]) ∧ Tn w' p g [0, 1, 2] 5 ∧ Only w w' p g := tShade_any w p g [0, 1, 2] 5 3 h
theorem aw7 (w : World) (p g : Nat) (h : Tn w p g [0, 1, 2] 5) : Calls Try.prog 9 #[.pointer (some ⟨p, 0, none⟩), .int .u8 0] w fun e w' => e = .returned (.int .i64 1) ∧ w = w' := tCount_any w p g [0, 1, 2] 5 0 h
theorem aw8 (w : World) (p g : Nat) (h : Tn w p g [0, 1, 2] 5) : Calls Try.prog 12 #[.pointer (some ⟨p, 0, none⟩)] w fun e w' => e = .returned (.tuple #[]) ∧ Tn w' p g [0, 0, 0] 6 ∧ Only w w' p g := tFlip_any w p g [0, 1, 2] 5 h (by decide)
theorem aw9 (w : World) (p g : Nat) (h : Tn w p g [0, 0, 0] 6) : Calls Try.prog 9 #[.pointer (some ⟨p, 0, none⟩), .int .u8 0] w fun e w' => e = .returned (.int .i64 3) ∧ w = w' := tCount_any w p g [0, 0, 0] 6 0 h
theorem aw0 (w : World) : Calls Try.prog 7 #[.int .i64 3] w fun e w' => ∃ p g, e = .returned (.tuple #[.pointer (some ⟨p, 0, none⟩), .int .i64 0]) ∧ Tn w' p g [0, 0, 0] 5 ∧ Below w.heap.size w w' ∧ w.heap.size ≤ p ∧ w.heap.size ≤ g := tNew_in w 3 5 (by decide) (by decide) (by decide)

theorem awake_any (w : World) : Calls Try.prog 8 #[] w fun e w' => e = .returned (.bool true) ∧ Below w.heap.size w w' := by
  go_enter Try.func8, Try.ntmps8
  go_wp2_with fail
  refine (aw0 _).mono ?_
  rintro e w1 ⟨p, g, rfl, h1, b1, hp, hg⟩
  go_wp2_with fail
  refine (aw1 _ p g h1).mono ?_
  rintro e w2 ⟨rfl, h2, o2⟩
  have b2 := b1.trans (o2.below hp hg b1.size)
  clear h1 b1 o2
  go_wp2_with fail
  refine (aw2 _ p g h2).mono ?_
  rintro e w3 ⟨rfl, h3, o3⟩
  have b3 := b2.trans (o3.below hp hg b2.size)
  clear h2 b2 o3
  go_wp2_with fail
  refine (aw3 _ p g h3).mono ?_
  rintro e w4 ⟨rfl, h4, o4⟩
  have b4 := b3.trans (o4.below hp hg b3.size)
  clear h3 b3 o4
  go_wp2_with fail
  refine (aw4 _ p g h4).mono ?_
  rintro e w' ⟨rfl, rfl⟩
  go_wp2_with fail
  refine (aw5 _ p g h4).mono ?_
  rintro e w' ⟨rfl, rfl⟩
  go_wp2_with fail
  refine (aw6 _ p g h4).mono ?_
  rintro e w5 ⟨rfl, h5, o5⟩
  have b5 := b4.trans (o5.below hp hg b4.size)
  clear h4 b4 o5
  go_wp2_with fail
  refine (aw7 _ p g h5).mono ?_
  rintro e w' ⟨rfl, rfl⟩
  go_wp2_with fail
  refine (aw8 _ p g h5).mono ?_
  rintro e w6 ⟨rfl, h6, o6⟩
  have b6 := b5.trans (o6.below hp hg b5.size)
  clear h5 b5 o6
  go_wp2_with fail
  refine (aw9 _ p g h6).mono ?_
  rintro e w' ⟨rfl, rfl⟩
  go_wp2_with fail
  go_ret
  exact ⟨rfl, b6⟩
end Go.Proofs.Ytcckppijabajdaa
