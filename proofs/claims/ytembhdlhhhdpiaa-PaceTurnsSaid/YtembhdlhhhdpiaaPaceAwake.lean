/- The known answers of the statements on pacers. -/
import Derived.Test.YtembhdlhhhdpiaaPaceEnd
import Derived.Test.YtembhdlhhhdpiaaPacePay
import Derived.Test.YtembhdlhhhdpiaaPaceAsk
namespace Go.Proofs.Ytembhdlhhhdpiaa
open Go.RowKit SatPlain

theorem awG (si tot de cy : Int) (ac : Bool) (h : 0 ≤ si ∧ si < 8) (h1 : 0 ≤ tot ∧ tot ≤ 100) (h2 : 0 ≤ de ∧ de ≤ 100) (h3 : 0 ≤ cy ∧ cy ≤ 100) : (⟨8, 2, si, tot, de, cy, ac⟩ : PP).Good :=
  ⟨show (1 : Int) ≤ 8 by decide, show (8 : Int) ≤ 1048576 by decide, show (0 : Int) ≤ 2 by decide, show (2 : Int) ≤ 1024 by decide, h.1, h.2, ⟨h1.1, by simp only; omega⟩, ⟨h2.1, by simp only; omega⟩, ⟨h3.1, by simp only; omega⟩⟩
abbrev PT (p : Nat) : Value := .pointer (some ⟨p, 0, none⟩)
theorem aw0 (w : World) : Calls Try.prog 7 #[.agg #[.int .i64 0, .int .i64 8, .int .i64 0, .int .i64 2]] w fun e w' => ∃ p, e = .returned (.tuple #[PT p, .int .i64 0]) ∧ Pc w' p ⟨8, 2, 0, 0, 0, 0, false⟩ ∧ Below w.heap.size w w' ∧ w.heap.size ≤ p :=
  pNew_in w 0 8 0 2 ⟨by decide, by decide, by decide, by decide⟩
theorem aw1 (w : World) (p : Nat) (h : Pc w p ⟨8, 2, 0, 0, 0, 0, false⟩) : Calls Try.prog 11 #[PT p, .int .i64 5] w fun e w' => e = .returned (.tuple #[.int .u8 0, .int .i64 0]) ∧ Pc w' p ⟨8, 2, 5, 5, 0, 0, false⟩ ∧ Only w w' p := pAsk_any w p ⟨8, 2, 0, 0, 0, 0, false⟩ 5 h (awG 0 0 0 0 false ⟨by decide, by decide⟩ ⟨by decide, by decide⟩ ⟨by decide, by decide⟩ ⟨by decide, by decide⟩) (by decide)
theorem aw2 (w : World) (p : Nat) (h : Pc w p ⟨8, 2, 5, 5, 0, 0, false⟩) : Calls Try.prog 12 #[PT p] w fun e w' => e = .returned (.int .i64 5) ∧ w = w' := pSince_any w p ⟨8, 2, 5, 5, 0, 0, false⟩ h (by decide)
theorem aw3 (w : World) (p : Nat) (h : Pc w p ⟨8, 2, 5, 5, 0, 0, false⟩) : Calls Try.prog 11 #[PT p, .int .i64 3] w fun e w' => e = .returned (.tuple #[.int .u8 1, .int .i64 0]) ∧ Pc w' p ⟨8, 2, 0, 8, 0, 0, false⟩ ∧ Only w w' p := pAsk_any w p ⟨8, 2, 5, 5, 0, 0, false⟩ 3 h (awG 5 5 0 0 false ⟨by decide, by decide⟩ ⟨by decide, by decide⟩ ⟨by decide, by decide⟩ ⟨by decide, by decide⟩) (by decide)
theorem aw4 (w : World) (p : Nat) (h : Pc w p ⟨8, 2, 0, 8, 0, 0, false⟩) : Calls Try.prog 12 #[PT p] w fun e w' => e = .returned (.int .i64 0) ∧ w = w' := pSince_any w p ⟨8, 2, 0, 8, 0, 0, false⟩ h (by decide)
theorem aw5 (w : World) (p : Nat) (h : Pc w p ⟨8, 2, 0, 8, 0, 0, false⟩) : Calls Try.prog 9 #[PT p] w fun e w' => e = .returned (.int .i64 0) ∧ Pc w' p ⟨8, 2, 0, 8, 0, 0, true⟩ ∧ Only w w' p := pBegin_any w p ⟨8, 2, 0, 8, 0, 0, false⟩ h (awG 0 8 0 0 false ⟨by decide, by decide⟩ ⟨by decide, by decide⟩ ⟨by decide, by decide⟩ ⟨by decide, by decide⟩)
theorem aw6 (w : World) (p : Nat) (h : Pc w p ⟨8, 2, 0, 8, 0, 0, true⟩) : Calls Try.prog 11 #[PT p, .int .i64 3] w fun e w' => e = .returned (.tuple #[.int .u8 0, .int .i64 0]) ∧ Pc w' p ⟨8, 2, 3, 11, 6, 0, true⟩ ∧ Only w w' p := pAsk_any w p ⟨8, 2, 0, 8, 0, 0, true⟩ 3 h (awG 0 8 0 0 true ⟨by decide, by decide⟩ ⟨by decide, by decide⟩ ⟨by decide, by decide⟩ ⟨by decide, by decide⟩) (by decide)
theorem aw7 (w : World) (p : Nat) (h : Pc w p ⟨8, 2, 3, 11, 6, 0, true⟩) : Calls Try.prog 14 #[PT p] w fun e w' => e = .returned (.int .i64 6) ∧ w = w' := pDebt_any w p ⟨8, 2, 3, 11, 6, 0, true⟩ h (by decide)
theorem aw8 (w : World) (p : Nat) (h : Pc w p ⟨8, 2, 3, 11, 6, 0, true⟩) : Calls Try.prog 20 #[PT p, .int .i64 4] w fun e w' => e = .returned (.int .i64 2) ∧ Pc w' p ⟨8, 2, 3, 11, 2, 0, true⟩ ∧ Only w w' p := pPay_any w p ⟨8, 2, 3, 11, 6, 0, true⟩ 4 h (awG 3 11 6 0 true ⟨by decide, by decide⟩ ⟨by decide, by decide⟩ ⟨by decide, by decide⟩ ⟨by decide, by decide⟩) ⟨by decide, by decide⟩
theorem aw9 (w : World) (p : Nat) (h : Pc w p ⟨8, 2, 3, 11, 2, 0, true⟩) : Calls Try.prog 20 #[PT p, .int .i64 9] w fun e w' => e = .returned (.int .i64 0) ∧ Pc w' p ⟨8, 2, 3, 11, 0, 0, true⟩ ∧ Only w w' p := pPay_any w p ⟨8, 2, 3, 11, 2, 0, true⟩ 9 h (awG 3 11 2 0 true ⟨by decide, by decide⟩ ⟨by decide, by decide⟩ ⟨by decide, by decide⟩ ⟨by decide, by decide⟩) ⟨by decide, by decide⟩
theorem aw10 (w : World) (p : Nat) (h : Pc w p ⟨8, 2, 3, 11, 0, 0, true⟩) : Calls Try.prog 11 #[PT p, .int .i64 20] w fun e w' => e = .returned (.tuple #[.int .u8 2, .int .i64 0]) ∧ Pc w' p ⟨8, 2, 0, 31, 40, 0, true⟩ ∧ Only w w' p := pAsk_any w p ⟨8, 2, 3, 11, 0, 0, true⟩ 20 h (awG 3 11 0 0 true ⟨by decide, by decide⟩ ⟨by decide, by decide⟩ ⟨by decide, by decide⟩ ⟨by decide, by decide⟩) (by decide)
theorem aw11 (w : World) (p : Nat) (h : Pc w p ⟨8, 2, 0, 31, 40, 0, true⟩) : Calls Try.prog 10 #[PT p] w fun e w' => e = .returned (.int .i64 0) ∧ Pc w' p ⟨8, 2, 0, 31, 0, 1, false⟩ ∧ Only w w' p := pEnd_any w p ⟨8, 2, 0, 31, 40, 0, true⟩ h (awG 0 31 40 0 true ⟨by decide, by decide⟩ ⟨by decide, by decide⟩ ⟨by decide, by decide⟩ ⟨by decide, by decide⟩)
theorem aw12 (w : World) (p : Nat) (h : Pc w p ⟨8, 2, 0, 31, 0, 1, false⟩) : Calls Try.prog 21 #[PT p] w fun e w' => e = .returned (.int .i64 1) ∧ w = w' := pCycles_any w p ⟨8, 2, 0, 31, 0, 1, false⟩ h (by decide)
theorem aw13 (w : World) (p : Nat) (h : Pc w p ⟨8, 2, 0, 31, 0, 1, false⟩) : Calls Try.prog 10 #[PT p] w fun e w' => e = .returned (.int .i64 9) ∧ Pc w' p ⟨8, 2, 0, 31, 0, 1, false⟩ ∧ Only w w' p := pEnd_any w p ⟨8, 2, 0, 31, 0, 1, false⟩ h (awG 0 31 0 1 false ⟨by decide, by decide⟩ ⟨by decide, by decide⟩ ⟨by decide, by decide⟩ ⟨by decide, by decide⟩)
theorem aw14 (w : World) (p : Nat) (h : Pc w p ⟨8, 2, 0, 31, 0, 1, false⟩) : Calls Try.prog 11 #[PT p, .int .i64 0] w fun e w' => e = .returned (.tuple #[.int .u8 0, .int .i64 2]) ∧ Pc w' p ⟨8, 2, 0, 31, 0, 1, false⟩ ∧ Only w w' p := pAsk_any w p ⟨8, 2, 0, 31, 0, 1, false⟩ 0 h (awG 0 31 0 1 false ⟨by decide, by decide⟩ ⟨by decide, by decide⟩ ⟨by decide, by decide⟩ ⟨by decide, by decide⟩) (by decide)
theorem aw15 (w : World) (p : Nat) (h : Pc w p ⟨8, 2, 0, 31, 0, 1, false⟩) : Calls Try.prog 13 #[PT p] w fun e w' => e = .returned (.int .i64 31) ∧ w = w' := pTotal_any w p ⟨8, 2, 0, 31, 0, 1, false⟩ h (by decide)

theorem awake_any (w : World) : Calls Try.prog 8 #[] w fun e w' => e = .returned (.bool true) ∧ Below w.heap.size w w' := by
  go_enter Try.func8, Try.ntmps8
  go_wp2_with fail
  refine (aw0 _).mono ?_
  rintro e w1 ⟨p, rfl, h, b, hp⟩
  go_wp2_with fail
  refine (aw1 _ p h).mono ?_
  rintro e w2 ⟨rfl, h1, o1⟩
  have b1 := b.trans (o1.below hp b.size)
  clear b h o1
  go_wp2_with fail
  refine (aw2 _ p h1).mono ?_
  rintro e w' ⟨rfl, rfl⟩
  go_wp2_with fail
  refine (aw3 _ p h1).mono ?_
  rintro e w3 ⟨rfl, h2, o2⟩
  have b2 := b1.trans (o2.below hp b1.size)
  clear b1 h1 o2
  go_wp2_with fail
  refine (aw4 _ p h2).mono ?_
  rintro e w' ⟨rfl, rfl⟩
  go_wp2_with fail
  refine (aw5 _ p h2).mono ?_
  rintro e w4 ⟨rfl, h3, o3⟩
  have b3 := b2.trans (o3.below hp b2.size)
  clear b2 h2 o3
  go_wp2_with fail
  refine (aw6 _ p h3).mono ?_
  rintro e w5 ⟨rfl, h4, o4⟩
  have b4 := b3.trans (o4.below hp b3.size)
  clear b3 h3 o4
  go_wp2_with fail
  refine (aw7 _ p h4).mono ?_
  rintro e w' ⟨rfl, rfl⟩
  go_wp2_with fail
  refine (aw8 _ p h4).mono ?_
  rintro e w6 ⟨rfl, h5, o5⟩
  have b5 := b4.trans (o5.below hp b4.size)
  clear b4 h4 o5
  go_wp2_with fail
  refine (aw9 _ p h5).mono ?_
  rintro e w7 ⟨rfl, h6, o6⟩
  have b6 := b5.trans (o6.below hp b5.size)
  clear b5 h5 o6
  go_wp2_with fail
  refine (aw10 _ p h6).mono ?_
  rintro e w8 ⟨rfl, h7, o7⟩
  have b7 := b6.trans (o7.below hp b6.size)
  clear b6 h6 o7
  go_wp2_with fail
  refine (aw11 _ p h7).mono ?_
  rintro e w9 ⟨rfl, h8, o8⟩
  have b8 := b7.trans (o8.below hp b7.size)
  clear b7 h7 o8
  go_wp2_with fail
  refine (aw12 _ p h8).mono ?_
  rintro e w' ⟨rfl, rfl⟩
  go_wp2_with fail
  refine (aw13 _ p h8).mono ?_
  rintro e w10 ⟨rfl, h9, o9⟩
  have b9 := b8.trans (o9.below hp b8.size)
  clear b8 h8 o9
  go_wp2_with fail
  refine (aw14 _ p h9).mono ?_
  rintro e w11 ⟨rfl, h10, o10⟩
  have b10 := b9.trans (o10.below hp b9.size)
  clear b9 h9 o10
  go_wp2_with fail
  refine (aw15 _ p h10).mono ?_
  rintro e w' ⟨rfl, rfl⟩
  go_wp2_with fail
  go_ret
  exact ⟨rfl, b10⟩
end Go.Proofs.Ytembhdlhhhdpiaa
