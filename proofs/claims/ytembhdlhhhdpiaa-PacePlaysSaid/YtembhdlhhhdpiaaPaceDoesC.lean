/- What the statements' helper does where it asks. -/
import Derived.Test.YtembhdlhhhdpiaaPaceDoesB
namespace Go.Proofs.Ytembhdlhhhdpiaa
open Go.RowKit SatPlain

set_option maxRecDepth 100000 in
set_option maxHeartbeats 8000000 in
theorem does_ask (w : World) (p : Nat) (q k : Int) (c : PP) (wk n : Int) (h : Pc w p c) (g : c.Good) (hk0 : 0 ≤ wk) (hk1 : wk ≤ 255) (hn : I64 n) (hw2 : ¬ wk % 5 = 2) (hw3 : ¬ wk % 5 = 3) (hw4 : ¬ wk % 5 = 4) :
    Calls Try.prog 17 #[PT p, RV q k c, .agg #[.int .u8 wk, .int .i64 n]] w fun e w' => e = .returned (.tuple #[RV q k (dsC c wk n), .bool true]) ∧ Pc w' p (dsC c wk n) ∧ Only w w' p := by
  have e1 : dsC c wk n = askC c n := by unfold dsC; simp [*]
  rw [e1]
  clear e1
  have r := fun w => rAsk_any w q k c n g hn.2
  have pr := fun w (h : Pc w p c) => pAsk_any w p c n h g hn.2
  have H := Lib.hid h
  have hlt := ltOf h
  have Z6 := Lib.hid (RB.new3 w (.cells #[.int .i64 q, .int .i64 c.tr, .int .i64 k, .int .i64 c.ast, .bool c.ac, .int .i64 c.si, .int .i64 c.tot, .int .i64 c.de, .int .i64 c.cy] 40) (.cells #[.int .u8 wk, .int .i64 n] 26))
  have B0 := Lib.hid (three w (.cells #[.int .i64 q, .int .i64 c.tr, .int .i64 k, .int .i64 c.ast, .bool c.ac, .int .i64 c.si, .int .i64 c.tot, .int .i64 c.de, .int .i64 c.cy] 40) (.cells #[.int .u8 wk, .int .i64 n] 26) (.cells #[.int .i64 0, .int .i64 0, .int .i64 0, .int .i64 0, .bool false, .int .i64 0, .int .i64 0, .int .i64 0, .int .i64 0] 40))
  have Ac := Lib.hid (RB.act (w := w) q k c wk n)
  have h2' : (wk % 5 == 2) = false := by rw [beq_eq_false_iff_ne]; exact hw2
  have h3' : (wk % 5 == 3) = false := by rw [beq_eq_false_iff_ne]; exact hw3
  have h4' : (wk % 5 == 4) = false := by rw [beq_eq_false_iff_ne]; exact hw4
  generalize hE : askE n = E at *
  generalize hD : askD c n = D at *
  generalize hC : askC c n = c' at *
  have lX : w.heap.size + 1 ≠ p := by omega
  have l0 : w.heap.size ≠ p := by omega
  have l8 : w.heap.size + 1 + 1 ≠ p := by omega
  have B3 : Hid (RB (((w.alloc (.cells #[.int .i64 q, .int .i64 c.tr, .int .i64 k, .int .i64 c.ast, .bool c.ac, .int .i64 c.si, .int .i64 c.tot, .int .i64 c.de, .int .i64 c.cy] 40)).alloc (.cells #[.int .u8 wk, .int .i64 n] 26)).alloc (.cells #[.int .i64 0, .int .i64 0, .int .i64 0, .int .i64 0, .bool false, .int .i64 0, .int .i64 0, .int .i64 0, .int .i64 0] 40)) w.heap.size q k c) := Lib.hid (((RB.new w q k c).below ((Below.refl (w.alloc (.cells #[.int .i64 q, .int .i64 c.tr, .int .i64 k, .int .i64 c.ast, .bool c.ac, .int .i64 c.si, .int .i64 c.tot, .int .i64 c.de, .int .i64 c.cy] 40)).heap.size _).alloc (Nat.le_refl _) (.cells #[.int .u8 wk, .int .i64 n] 26)) (by simp)).below ((Below.refl ((w.alloc (.cells #[.int .i64 q, .int .i64 c.tr, .int .i64 k, .int .i64 c.ast, .bool c.ac, .int .i64 c.si, .int .i64 c.tot, .int .i64 c.de, .int .i64 c.cy] 40)).alloc (.cells #[.int .u8 wk, .int .i64 n] 26)).heap.size _).alloc (Nat.le_refl _) (.cells #[.int .i64 0, .int .i64 0, .int .i64 0, .int .i64 0, .bool false, .int .i64 0, .int .i64 0, .int .i64 0, .int .i64 0] 40)) (by simp; omega))
  have A3 : Hid ((((w.alloc (.cells #[.int .i64 q, .int .i64 c.tr, .int .i64 k, .int .i64 c.ast, .bool c.ac, .int .i64 c.si, .int .i64 c.tot, .int .i64 c.de, .int .i64 c.cy] 40)).alloc (.cells #[.int .u8 wk, .int .i64 n] 26)).alloc (.cells #[.int .i64 0, .int .i64 0, .int .i64 0, .int .i64 0, .bool false, .int .i64 0, .int .i64 0, .int .i64 0, .int .i64 0] 40)).heap[w.heap.size + 1]? = some (.cells #[.int .u8 wk, .int .i64 n] 26 (0, 0))) := Lib.hid ((((Below.refl ((w.alloc (.cells #[.int .i64 q, .int .i64 c.tr, .int .i64 k, .int .i64 c.ast, .bool c.ac, .int .i64 c.si, .int .i64 c.tot, .int .i64 c.de, .int .i64 c.cy] 40)).alloc (.cells #[.int .u8 wk, .int .i64 n] 26)).heap.size _).alloc (Nat.le_refl _) (.cells #[.int .i64 0, .int .i64 0, .int .i64 0, .int .i64 0, .bool false, .int .i64 0, .int .i64 0, .int .i64 0, .int .i64 0] 40)).block _ (by simp)).trans Ac.out)
  clear h g hE hC hn hD hw2 hw3 hw4
  unfold RV at r ⊢
  go_enter Try.func17, Try.ntmps17
  go_wp2_with fail
  refine (pr _ (by exact H.out.below B0.out hlt)).mono ?_
  rintro e w1 ⟨rfl, h1, o1⟩
  have N1 := Lib.hid h1
  have P1 := Lib.hid ((Only.ofBelow B0.out).trans o1)
  have Y6 := Lib.hid (Z6.out.only o1 l8)
  have Y0 := Lib.hid (B3.out.only o1 l0)
  have Ac1 := Lib.hid ((o1.block _ (ltOf A3.out) lX).trans A3.out)
  obtain ⟨a0, a1, a2, a3, a4, a5, a6, a7, a8⟩ := Y0.out.cells
  have act1 : w1.cell? ⟨w.heap.size + 1, 1, none⟩ = some (.int .i64 n) := by rw [cellOf Ac1.out]; rfl
  clear pr h1 o1
  go_wp2_with fail
  refine (r _).mono ?_
  rintro e w2 ⟨rfl, b2⟩
  have lp := ltOf N1.out
  have N2 := Lib.hid (N1.out.below b2 lp)
  have lw := P1.out.size
  have P2 := Lib.hid (P1.out.then_below b2 lw)
  have X6 := Lib.hid (Y6.out.below b2 (ltOf Y6.out))
  have lq := P2.out.size
  have l6 := ltOf X6.out
  clear a0 a1 a2 a3 a4 a5 a6 a7 a8 act1 r b2
  go_upto_region 13 with fail
  have F : RB (w2.alloc (.cells #[.int .i64 q, .int .i64 c'.tr, .int .i64 k, .int .i64 c'.ast, .bool c'.ac, .int .i64 c'.si, .int .i64 c'.tot, .int .i64 c'.de, .int .i64 c'.cy] 40)) w2.heap.size q k c' ∧ RB (w2.alloc (.cells #[.int .i64 q, .int .i64 c'.tr, .int .i64 k, .int .i64 c'.ast, .bool c'.ac, .int .i64 c'.si, .int .i64 c'.tot, .int .i64 c'.de, .int .i64 c'.cy] 40)) (w.heap.size + 1 + 1) 0 0 Z0 ∧ Pc (w2.alloc (.cells #[.int .i64 q, .int .i64 c'.tr, .int .i64 k, .int .i64 c'.ast, .bool c'.ac, .int .i64 c'.si, .int .i64 c'.tot, .int .i64 c'.de, .int .i64 c'.cy] 40)) p c' ∧ Only w (w2.alloc (.cells #[.int .i64 q, .int .i64 c'.tr, .int .i64 k, .int .i64 c'.ast, .bool c'.ac, .int .i64 c'.si, .int .i64 c'.tot, .int .i64 c'.de, .int .i64 c'.cy] 40)) p :=
    ⟨RB.new w2 q k c', X6.out.below ((Below.refl _ _).alloc (Nat.le_refl _) _) l6, N2.out.below ((Below.refl _ _).alloc (Nat.le_refl _) _) (ltOf N2.out), P2.out.alloc _⟩
  generalize w2.alloc (.cells #[.int .i64 q, .int .i64 c'.tr, .int .i64 k, .int .i64 c'.ast, .bool c'.ac, .int .i64 c'.si, .int .i64 c'.tot, .int .i64 c'.de, .int .i64 c'.cy] 40) = w3 at F ⊢
  generalize w2.heap.size = s2 at F ⊢
  obtain ⟨F1, F2, F3, F4⟩ := F
  have le3 := F4.size
  obtain ⟨x0, x1, x2, x3, x4, x5, x6, x7, x8⟩ := F1.cells
  obtain ⟨y0, y1, y2, y3, y4, y5, y6, y7, y8⟩ := F2.cells
  have f7 := fun i => fzR F2 i
  have G3 := Lib.hid F3
  have G4 := Lib.hid F4
  clear F1 F2 F3 F4 lq l6 X6 N2 P2 lw lp Ac1 Y6 Y0 N1 P1
  go_wp2_with fail
  have NN := Lib.hid (nine (Only.refl w3 (w.heap.size + 1 + 1)) (.int .i64 q) (.int .i64 c'.tr) (.int .i64 k) (.int .i64 c'.ast) (.bool c'.ac) (.int .i64 c'.si) (.int .i64 c'.tot) (.int .i64 c'.de) (.int .i64 c'.cy))
  refine bodyPost_ret (by simp [results, Try.results17, go_sem, y0, y1, y2, y3, y4, y5, y6, y7, y8]; rfl) rfl ?_
  exact ⟨rfl, G3.out.only NN.out (Ne.symm l8), G4.out.then_below (NN.out.below (B := w.heap.size) (by omega) le3) (Nat.le_refl _)⟩

theorem does_any (w : World) (p : Nat) (q k : Int) (c : PP) (wk n : Int) (h : Pc w p c) (g : c.Good) (hk0 : 0 ≤ wk) (hk1 : wk ≤ 255) (hn : I64 n) :
    Calls Try.prog 17 #[PT p, RV q k c, .agg #[.int .u8 wk, .int .i64 n]] w fun e w' => e = .returned (.tuple #[RV q k (dsC c wk n), .bool true]) ∧ Pc w' p (dsC c wk n) ∧ Only w w' p := by
  by_cases hw2 : wk % 5 = 2
  · exact does_begin w p q k c wk n h g hk0 hk1 hw2
  by_cases hw3 : wk % 5 = 3
  · exact does_end w p q k c wk n h g hk0 hk1 hw3
  by_cases hw4 : wk % 5 = 4
  · exact does_pay w p q k c wk n h g hk0 hk1 hn hw4
  exact does_ask w p q k c wk n h g hk0 hk1 hn hw2 hw3 hw4
end Go.Proofs.Ytembhdlhhhdpiaa
