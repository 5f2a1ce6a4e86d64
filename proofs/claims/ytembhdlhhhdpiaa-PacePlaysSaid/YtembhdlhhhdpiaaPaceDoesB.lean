/- What the statements' helper does. -/
import Derived.Test.YtembhdlhhhdpiaaPaceDoes
import Derived.Deep.DeepCutAuto
import Derived.Outline
namespace Go.Proofs.Ytembhdlhhhdpiaa
open Go.RowKit SatPlain

theorem Only.then_below {w w1 w2 : World} {p B : Nat} (h : Only w w1 p) (b : Below B w1 w2) (hB : w.heap.size ≤ B) : Only w w2 p :=
  ⟨b.os.trans h.os, b.tape.trans h.tape, b.output.trans h.output, Nat.le_trans h.size b.size, fun k hk h1 => (b.block k (by omega)).trans (h.block k hk h1)⟩
/-- nine cells are stored -/
theorem nine {w w1 : World} {b : Nat} (h : Only w w1 b) (v0 v1 v2 v3 v4 v5 v6 v7 v8 : Value) :
    Only w (((((((((w1.setCell ⟨b, 0, none⟩ v0).setCell ⟨b, 1, none⟩ v1).setCell ⟨b, 2, none⟩ v2).setCell ⟨b, 3, none⟩ v3).setCell ⟨b, 4, none⟩ v4).setCell ⟨b, 5, none⟩ v5).setCell ⟨b, 6, none⟩ v6).setCell ⟨b, 7, none⟩ v7).setCell ⟨b, 8, none⟩ v8) b :=
  ((((((((h.stored _ _).stored _ _).stored _ _).stored _ _).stored _ _).stored _ _).stored _ _).stored _ _).stored _ _
theorem RB.act {w : World} (q k : Int) (c : PP) (wk n : Int) : ((w.alloc (.cells #[.int .i64 q, .int .i64 c.tr, .int .i64 k, .int .i64 c.ast, .bool c.ac, .int .i64 c.si, .int .i64 c.tot, .int .i64 c.de, .int .i64 c.cy] 40)).alloc (.cells #[.int .u8 wk, .int .i64 n] 26)).heap[w.heap.size + 1]? = some (.cells #[.int .u8 wk, .int .i64 n] 26 (0, 0)) := by
  have := heap_alloc_new (w.alloc (.cells #[.int .i64 q, .int .i64 c.tr, .int .i64 k, .int .i64 c.ast, .bool c.ac, .int .i64 c.si, .int .i64 c.tot, .int .i64 c.de, .int .i64 c.cy] 40)) (.cells #[.int .u8 wk, .int .i64 n] 26)
  rw [World.size_alloc] at this
  exact this

set_option maxRecDepth 100000 in
set_option maxHeartbeats 8000000 in
theorem does_begin (w : World) (p : Nat) (q k : Int) (c : PP) (wk n : Int) (h : Pc w p c) (g : c.Good) (hk0 : 0 ≤ wk) (hk1 : wk ≤ 255) (hw : wk % 5 = 2) :
    Calls Try.prog 17 #[PT p, RV q k c, .agg #[.int .u8 wk, .int .i64 n]] w fun e w' => e = .returned (.tuple #[RV q k (dsC c wk n), .bool true]) ∧ Pc w' p (dsC c wk n) ∧ Only w w' p := by
  have e1 : dsC c wk n = tnC c true := by unfold dsC; simp [*]
  rw [e1]
  clear e1
  have r := fun w => rTurn_any w q k c true g
  have pr := fun w (h : Pc w p c) => pBegin_any w p c h g
  have H := Lib.hid h
  have hlt := ltOf h
  have Z6 := Lib.hid (RB.new3 w (.cells #[.int .i64 q, .int .i64 c.tr, .int .i64 k, .int .i64 c.ast, .bool c.ac, .int .i64 c.si, .int .i64 c.tot, .int .i64 c.de, .int .i64 c.cy] 40) (.cells #[.int .u8 wk, .int .i64 n] 26))
  have B0 := Lib.hid (three w (.cells #[.int .i64 q, .int .i64 c.tr, .int .i64 k, .int .i64 c.ast, .bool c.ac, .int .i64 c.si, .int .i64 c.tot, .int .i64 c.de, .int .i64 c.cy] 40) (.cells #[.int .u8 wk, .int .i64 n] 26) (.cells #[.int .i64 0, .int .i64 0, .int .i64 0, .int .i64 0, .bool false, .int .i64 0, .int .i64 0, .int .i64 0, .int .i64 0] 40))
  have Ac := Lib.hid (RB.act (w := w) q k c wk n)
  generalize hE : tnE c true = E at *
  generalize hC : tnC c true = c' at *
  clear h g hE hC
  unfold RV at r ⊢
  go_enter Try.func17, Try.ntmps17
  go_wp2_with fail
  refine (r _).mono ?_
  rintro e w1 ⟨rfl, b1⟩
  have Y6 := Lib.hid (Z6.out.below b1 (ltOf Z6.out))
  have B1 := Lib.hid (B0.out.trans (b1.mono B0.out.size))
  have H1 := Lib.hid (H.out.below B1.out hlt)
  have l6 := ltOf Y6.out
  have lp := ltOf H1.out
  have Ac1 := Lib.hid ((b1.block _ (by simp)).trans ((((Below.refl _ _).alloc (Nat.le_refl _) (.cells #[.int .i64 0, .int .i64 0, .int .i64 0, .int .i64 0, .bool false, .int .i64 0, .int .i64 0, .int .i64 0, .int .i64 0] 40)).block _ (by simp)).trans Ac.out))
  clear r b1 Z6 B0 Ac
  go_upto_region 4 with fail
  have H2 := Lib.hid (H1.out.below ((Below.refl _ _).alloc (Nat.le_refl _) (.cells #[.int .i64 q, .int .i64 c'.tr, .int .i64 k, .int .i64 c'.ast, .bool c'.ac, .int .i64 c'.si, .int .i64 c'.tot, .int .i64 c'.de, .int .i64 c'.cy] 40)) lp)
  have X8 := Lib.hid (RB.new w1 q k c')
  have X6 := Lib.hid (Y6.out.below ((Below.refl _ _).alloc (Nat.le_refl _) (.cells #[.int .i64 q, .int .i64 c'.tr, .int .i64 k, .int .i64 c'.ast, .bool c'.ac, .int .i64 c'.si, .int .i64 c'.tot, .int .i64 c'.de, .int .i64 c'.cy] 40)) l6)
  have lX : w1.heap.size ≠ p := by omega
  have l8 : w.heap.size + 1 + 1 ≠ p := by omega
  obtain ⟨a0, a1, a2, a3, a4, a5, a6, a7, a8⟩ := X8.out.cells
  have f6 := fun i => fzR X6.out i
  have D8 : Hid (RB (World.drew (w1.alloc (.cells #[.int .i64 q, .int .i64 c'.tr, .int .i64 k, .int .i64 c'.ast, .bool c'.ac, .int .i64 c'.si, .int .i64 c'.tot, .int .i64 c'.de, .int .i64 c'.cy] 40))) w1.heap.size q k c') := Lib.hid X8.out
  have D6 : Hid (RB (World.drew (w1.alloc (.cells #[.int .i64 q, .int .i64 c'.tr, .int .i64 k, .int .i64 c'.ast, .bool c'.ac, .int .i64 c'.si, .int .i64 c'.tot, .int .i64 c'.de, .int .i64 c'.cy] 40))) (w.heap.size + 1 + 1) 0 0 Z0) := Lib.hid X6.out
  have BD : Hid (Below w.heap.size w (World.drew (w1.alloc (.cells #[.int .i64 q, .int .i64 c'.tr, .int .i64 k, .int .i64 c'.ast, .bool c'.ac, .int .i64 c'.si, .int .i64 c'.tot, .int .i64 c'.de, .int .i64 c'.cy] 40)))) := Lib.hid (Bdr (B1.out.alloc B1.out.size _))
  go_region_with (go_at_call 9; refine (pr _ (by exact H2.out)).mono ?_; rintro e w2 ⟨rfl, h2, o2⟩; have N2 := Lib.hid h2; have P2 := Lib.hid o2; clear h2 o2; obtain ⟨z0, z1, z2, z3, z4, z5, z6, z7, z8⟩ := (D8.out.only P2.out lX).cells; obtain ⟨y0, y1, y2, y3, y4, y5, y6, y7, y8⟩ := (D6.out.only P2.out l8).cells; have f7 := fun i => fzR (D6.out.only P2.out l8) i)
  all_goals
    go_wp2_with fail
    have nn := nine (Only.refl w2 (w.heap.size + 1 + 1)) (.int .i64 q) (.int .i64 c'.tr) (.int .i64 k) (.int .i64 c'.ast) (.bool c'.ac) (.int .i64 c'.si) (.int .i64 c'.tot) (.int .i64 c'.de) (.int .i64 c'.cy)
    have NN := Lib.hid nn
    clear nn
    refine bodyPost_ret (by simp [results, Try.results17, go_sem, y0, y1, y2, y3, y4, y5, y6, y7, y8]; rfl) rfl ?_
    exact ⟨rfl, N2.out.only NN.out (Ne.symm l8), ((Only.ofBelow BD.out).trans P2.out).then_below (NN.out.below (B := w.heap.size) (by omega) (by have := (P2.out).size; have := BD.out.size; omega)) (Nat.le_refl _)⟩

set_option maxRecDepth 100000 in
set_option maxHeartbeats 8000000 in
theorem does_end (w : World) (p : Nat) (q k : Int) (c : PP) (wk n : Int) (h : Pc w p c) (g : c.Good) (hk0 : 0 ≤ wk) (hk1 : wk ≤ 255) (hw : wk % 5 = 3) :
    Calls Try.prog 17 #[PT p, RV q k c, .agg #[.int .u8 wk, .int .i64 n]] w fun e w' => e = .returned (.tuple #[RV q k (dsC c wk n), .bool true]) ∧ Pc w' p (dsC c wk n) ∧ Only w w' p := by
  have e1 : dsC c wk n = tnC c false := by unfold dsC; simp [*]
  rw [e1]
  clear e1
  have r := fun w => rTurn_any w q k c false g
  have pr := fun w (h : Pc w p c) => pEnd_any w p c h g
  have H := Lib.hid h
  have hlt := ltOf h
  have Z6 := Lib.hid (RB.new3 w (.cells #[.int .i64 q, .int .i64 c.tr, .int .i64 k, .int .i64 c.ast, .bool c.ac, .int .i64 c.si, .int .i64 c.tot, .int .i64 c.de, .int .i64 c.cy] 40) (.cells #[.int .u8 wk, .int .i64 n] 26))
  have B0 := Lib.hid (three w (.cells #[.int .i64 q, .int .i64 c.tr, .int .i64 k, .int .i64 c.ast, .bool c.ac, .int .i64 c.si, .int .i64 c.tot, .int .i64 c.de, .int .i64 c.cy] 40) (.cells #[.int .u8 wk, .int .i64 n] 26) (.cells #[.int .i64 0, .int .i64 0, .int .i64 0, .int .i64 0, .bool false, .int .i64 0, .int .i64 0, .int .i64 0, .int .i64 0] 40))
  have Ac := Lib.hid (RB.act (w := w) q k c wk n)
  generalize hE : tnE c false = E at *
  generalize hC : tnC c false = c' at *
  clear h g hE hC
  unfold RV at r ⊢
  go_enter Try.func17, Try.ntmps17
  go_wp2_with fail
  refine (r _).mono ?_
  rintro e w1 ⟨rfl, b1⟩
  have Y6 := Lib.hid (Z6.out.below b1 (ltOf Z6.out))
  have B1 := Lib.hid (B0.out.trans (b1.mono B0.out.size))
  have H1 := Lib.hid (H.out.below B1.out hlt)
  have l6 := ltOf Y6.out
  have lp := ltOf H1.out
  have Ac1 := Lib.hid ((b1.block _ (by simp)).trans ((((Below.refl _ _).alloc (Nat.le_refl _) (.cells #[.int .i64 0, .int .i64 0, .int .i64 0, .int .i64 0, .bool false, .int .i64 0, .int .i64 0, .int .i64 0, .int .i64 0] 40)).block _ (by simp)).trans Ac.out))
  clear r b1 Z6 B0 Ac
  go_upto_region 7 with fail
  have H2 := Lib.hid (H1.out.below ((Below.refl _ _).alloc (Nat.le_refl _) (.cells #[.int .i64 q, .int .i64 c'.tr, .int .i64 k, .int .i64 c'.ast, .bool c'.ac, .int .i64 c'.si, .int .i64 c'.tot, .int .i64 c'.de, .int .i64 c'.cy] 40)) lp)
  have X8 := Lib.hid (RB.new w1 q k c')
  have X6 := Lib.hid (Y6.out.below ((Below.refl _ _).alloc (Nat.le_refl _) (.cells #[.int .i64 q, .int .i64 c'.tr, .int .i64 k, .int .i64 c'.ast, .bool c'.ac, .int .i64 c'.si, .int .i64 c'.tot, .int .i64 c'.de, .int .i64 c'.cy] 40)) l6)
  have lX : w1.heap.size ≠ p := by omega
  have l8 : w.heap.size + 1 + 1 ≠ p := by omega
  obtain ⟨a0, a1, a2, a3, a4, a5, a6, a7, a8⟩ := X8.out.cells
  have f6 := fun i => fzR X6.out i
  have D8 : Hid (RB (World.drew (w1.alloc (.cells #[.int .i64 q, .int .i64 c'.tr, .int .i64 k, .int .i64 c'.ast, .bool c'.ac, .int .i64 c'.si, .int .i64 c'.tot, .int .i64 c'.de, .int .i64 c'.cy] 40))) w1.heap.size q k c') := Lib.hid X8.out
  have D6 : Hid (RB (World.drew (w1.alloc (.cells #[.int .i64 q, .int .i64 c'.tr, .int .i64 k, .int .i64 c'.ast, .bool c'.ac, .int .i64 c'.si, .int .i64 c'.tot, .int .i64 c'.de, .int .i64 c'.cy] 40))) (w.heap.size + 1 + 1) 0 0 Z0) := Lib.hid X6.out
  have BD : Hid (Below w.heap.size w (World.drew (w1.alloc (.cells #[.int .i64 q, .int .i64 c'.tr, .int .i64 k, .int .i64 c'.ast, .bool c'.ac, .int .i64 c'.si, .int .i64 c'.tot, .int .i64 c'.de, .int .i64 c'.cy] 40)))) := Lib.hid (Bdr (B1.out.alloc B1.out.size _))
  go_region_with (go_at_call 10; refine (pr _ (by exact H2.out)).mono ?_; rintro e w2 ⟨rfl, h2, o2⟩; have N2 := Lib.hid h2; have P2 := Lib.hid o2; clear h2 o2; obtain ⟨z0, z1, z2, z3, z4, z5, z6, z7, z8⟩ := (D8.out.only P2.out lX).cells; obtain ⟨y0, y1, y2, y3, y4, y5, y6, y7, y8⟩ := (D6.out.only P2.out l8).cells; have f7 := fun i => fzR (D6.out.only P2.out l8) i)
  all_goals
    go_wp2_with fail
    have nn := nine (Only.refl w2 (w.heap.size + 1 + 1)) (.int .i64 q) (.int .i64 c'.tr) (.int .i64 k) (.int .i64 c'.ast) (.bool c'.ac) (.int .i64 c'.si) (.int .i64 c'.tot) (.int .i64 c'.de) (.int .i64 c'.cy)
    have NN := Lib.hid nn
    clear nn
    refine bodyPost_ret (by simp [results, Try.results17, go_sem, y0, y1, y2, y3, y4, y5, y6, y7, y8]; rfl) rfl ?_
    exact ⟨rfl, N2.out.only NN.out (Ne.symm l8), ((Only.ofBelow BD.out).trans P2.out).then_below (NN.out.below (B := w.heap.size) (by omega) (by have := (P2.out).size; have := BD.out.size; omega)) (Nat.le_refl _)⟩

set_option maxRecDepth 100000 in
set_option maxHeartbeats 8000000 in
theorem does_pay (w : World) (p : Nat) (q k : Int) (c : PP) (wk n : Int) (h : Pc w p c) (g : c.Good) (hk0 : 0 ≤ wk) (hk1 : wk ≤ 255) (hn : I64 n) (hw : wk % 5 = 4) :
    Calls Try.prog 17 #[PT p, RV q k c, .agg #[.int .u8 wk, .int .i64 n]] w fun e w' => e = .returned (.tuple #[RV q k (dsC c wk n), .bool true]) ∧ Pc w' p (dsC c wk n) ∧ Only w w' p := by
  have e1 : dsC c wk n = payC c n := by unfold dsC; simp [*]
  rw [e1]
  clear e1
  have r := fun w => rPay_any w q k c n g hn
  have pr := fun w (h : Pc w p c) => pPay_any w p c n h g hn
  have H := Lib.hid h
  have hlt := ltOf h
  have Z6 := Lib.hid (RB.new3 w (.cells #[.int .i64 q, .int .i64 c.tr, .int .i64 k, .int .i64 c.ast, .bool c.ac, .int .i64 c.si, .int .i64 c.tot, .int .i64 c.de, .int .i64 c.cy] 40) (.cells #[.int .u8 wk, .int .i64 n] 26))
  have B0 := Lib.hid (three w (.cells #[.int .i64 q, .int .i64 c.tr, .int .i64 k, .int .i64 c.ast, .bool c.ac, .int .i64 c.si, .int .i64 c.tot, .int .i64 c.de, .int .i64 c.cy] 40) (.cells #[.int .u8 wk, .int .i64 n] 26) (.cells #[.int .i64 0, .int .i64 0, .int .i64 0, .int .i64 0, .bool false, .int .i64 0, .int .i64 0, .int .i64 0, .int .i64 0] 40))
  have Ac := Lib.hid (RB.act (w := w) q k c wk n)
  generalize hE : payR c n = E at *
  generalize hC : payC c n = c' at *
  clear h g hE hC hn
  unfold RV at r ⊢
  go_enter Try.func17, Try.ntmps17
  go_wp2_with fail
  refine (r _).mono ?_
  rintro e w1 ⟨rfl, b1⟩
  have Y6 := Lib.hid (Z6.out.below b1 (ltOf Z6.out))
  have B1 := Lib.hid (B0.out.trans (b1.mono B0.out.size))
  have H1 := Lib.hid (H.out.below B1.out hlt)
  have l6 := ltOf Y6.out
  have lp := ltOf H1.out
  have Ac1 := Lib.hid ((b1.block _ (by simp)).trans ((((Below.refl _ _).alloc (Nat.le_refl _) (.cells #[.int .i64 0, .int .i64 0, .int .i64 0, .int .i64 0, .bool false, .int .i64 0, .int .i64 0, .int .i64 0, .int .i64 0] 40)).block _ (by simp)).trans Ac.out))
  clear r b1 Z6 B0 Ac
  go_upto_region 10 with fail
  have H2 := Lib.hid (H1.out.below ((Below.refl _ _).alloc (Nat.le_refl _) (.cells #[.int .i64 q, .int .i64 c'.tr, .int .i64 k, .int .i64 c'.ast, .bool c'.ac, .int .i64 c'.si, .int .i64 c'.tot, .int .i64 c'.de, .int .i64 c'.cy] 40)) lp)
  have X8 := Lib.hid (RB.new w1 q k c')
  have X6 := Lib.hid (Y6.out.below ((Below.refl _ _).alloc (Nat.le_refl _) (.cells #[.int .i64 q, .int .i64 c'.tr, .int .i64 k, .int .i64 c'.ast, .bool c'.ac, .int .i64 c'.si, .int .i64 c'.tot, .int .i64 c'.de, .int .i64 c'.cy] 40)) l6)
  have lX : w1.heap.size ≠ p := by omega
  have l8 : w.heap.size + 1 + 1 ≠ p := by omega
  obtain ⟨a0, a1, a2, a3, a4, a5, a6, a7, a8⟩ := X8.out.cells
  have f6 := fun i => fzR X6.out i
  have D8 : Hid (RB (World.drew (w1.alloc (.cells #[.int .i64 q, .int .i64 c'.tr, .int .i64 k, .int .i64 c'.ast, .bool c'.ac, .int .i64 c'.si, .int .i64 c'.tot, .int .i64 c'.de, .int .i64 c'.cy] 40))) w1.heap.size q k c') := Lib.hid X8.out
  have D6 : Hid (RB (World.drew (w1.alloc (.cells #[.int .i64 q, .int .i64 c'.tr, .int .i64 k, .int .i64 c'.ast, .bool c'.ac, .int .i64 c'.si, .int .i64 c'.tot, .int .i64 c'.de, .int .i64 c'.cy] 40))) (w.heap.size + 1 + 1) 0 0 Z0) := Lib.hid X6.out
  have BD : Hid (Below w.heap.size w (World.drew (w1.alloc (.cells #[.int .i64 q, .int .i64 c'.tr, .int .i64 k, .int .i64 c'.ast, .bool c'.ac, .int .i64 c'.si, .int .i64 c'.tot, .int .i64 c'.de, .int .i64 c'.cy] 40)))) := Lib.hid (Bdr (B1.out.alloc B1.out.size _))
  have act1 : (w1.alloc (.cells #[.int .i64 q, .int .i64 c'.tr, .int .i64 k, .int .i64 c'.ast, .bool c'.ac, .int .i64 c'.si, .int .i64 c'.tot, .int .i64 c'.de, .int .i64 c'.cy] 40)).cell? ⟨w.heap.size + 1, 1, none⟩ = some (.int .i64 n) := by
    rw [((Below.refl w1.heap.size w1).alloc (Nat.le_refl _) _).cell (p := ⟨w.heap.size + 1, 1, none⟩) (show w.heap.size + 1 < w1.heap.size by omega), cellOf Ac1.out]; rfl
  go_region_with (go_at_call 20; refine (pr _ (by exact H2.out)).mono ?_; rintro e w2 ⟨rfl, h2, o2⟩; have N2 := Lib.hid h2; have P2 := Lib.hid o2; clear h2 o2; obtain ⟨z0, z1, z2, z3, z4, z5, z6, z7, z8⟩ := (D8.out.only P2.out lX).cells; obtain ⟨y0, y1, y2, y3, y4, y5, y6, y7, y8⟩ := (D6.out.only P2.out l8).cells; have f7 := fun i => fzR (D6.out.only P2.out l8) i)
  all_goals
    go_wp2_with fail
    have nn := nine (Only.refl w2 (w.heap.size + 1 + 1)) (.int .i64 q) (.int .i64 c'.tr) (.int .i64 k) (.int .i64 c'.ast) (.bool c'.ac) (.int .i64 c'.si) (.int .i64 c'.tot) (.int .i64 c'.de) (.int .i64 c'.cy)
    have NN := Lib.hid nn
    clear nn
    refine bodyPost_ret (by simp [results, Try.results17, go_sem, y0, y1, y2, y3, y4, y5, y6, y7, y8]; rfl) rfl ?_
    exact ⟨rfl, N2.out.only NN.out (Ne.symm l8), ((Only.ofBelow BD.out).trans P2.out).then_below (NN.out.below (B := w.heap.size) (by omega) (by have := (P2.out).size; have := BD.out.size; omega)) (Nat.le_refl _)⟩
end Go.Proofs.Ytembhdlhhhdpiaa
