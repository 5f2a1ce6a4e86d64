/- What the statements' helpers do: same, does. -/
import Derived.Test.YtembhdlhhhdpiaaPaceActs
import Derived.Test.YtembhdlhhhdpiaaPaceRAsk
namespace Go.Proofs.Ytembhdlhhhdpiaa
open Go.RowKit SatPlain

theorem drewN_below {B : Nat} {w w' : World} (h : Below B w w') (n : Nat) : Below B w (w'.drewN n) := ⟨h.os, h.tape, h.output, h.size, h.block⟩
theorem quiet_same {P : Program} {f : FuncId} {args : Array Value} {w : World} {n : Nat} {v : Value}
    (h : Calls P f args (w.drewN n) fun e w' => e = .returned v ∧ w.drewN n = w') : Calls P f args (w.drewN n) fun e w'' => e = .returned v ∧ ∃ m, w'' = w.drewN m :=
  h.mono fun _ _ ⟨he, hm⟩ => ⟨he, n, hm.symm⟩
set_option maxHeartbeats 4000000 in
theorem same_any (w : World) (p : Nat) (q k : Int) (c : PP) (h : Pc w p c) (g : c.Good) :
    Calls Try.prog 18 #[PT p, RV q k c] w fun e w' => e = .returned (.bool true) ∧ Below w.heap.size w w' := by
  have h' : Pc (w.alloc (.cells #[.int .i64 q, .int .i64 c.tr, .int .i64 k, .int .i64 c.ast, .bool c.ac, .int .i64 c.si, .int .i64 c.tot, .int .i64 c.de, .int .i64 c.cy] 40)) p c :=
    h.below ((Below.refl _ _).alloc (Nat.le_refl _) _) (ltOf h)
  have HD : Hid (∀ n, Pc (World.drewN (w.alloc (.cells #[.int .i64 q, .int .i64 c.tr, .int .i64 k, .int .i64 c.ast, .bool c.ac, .int .i64 c.si, .int .i64 c.tot, .int .i64 c.de, .int .i64 c.cy] 40)) n) p c) := fun n => h'
  have HT := Lib.hid g.tr0
  clear h h' g
  unfold RV
  go_enter Try.func18, Try.ntmps18
  go_wp2_with fail
  go_quiet (first | (go_at_call 14; exact quiet_same (pDebt_any _ p c (HD.out _) HT.out)) | (go_at_call 12; exact quiet_same (pSince_any _ p c (HD.out _) HT.out)) | (go_at_call 13; exact quiet_same (pTotal_any _ p c (HD.out _) HT.out)) | (go_at_call 21; exact quiet_same (pCycles_any _ p c (HD.out _) HT.out)) | (go_at_call 15; exact quiet_same (pActive_any _ p c (HD.out _) HT.out)))
  go_wp2_with fail
  go_ret
  exact ⟨rfl, drewN_below ((Below.refl _ _).alloc (Nat.le_refl _) _) _⟩

/-- what an act does -/
def dsC (c : PP) (wk n : Int) : PP := if wk % 5 = 2 then tnC c true else if wk % 5 = 3 then tnC c false else if wk % 5 = 4 then payC c n else askC c n
theorem dsC_good {c : PP} (g : c.Good) (wk n : Int) : (dsC c wk n).Good := by
  unfold dsC
  split
  · exact tnC_good g _
  split
  · exact tnC_good g _
  split
  · exact payC_good g _
  · exact askC_good g _
/-- the reference's pacer in its own variable -/
def RB (w : World) (b : Nat) (q k : Int) (c : PP) : Prop := w.heap[b]? = some (.cells #[.int .i64 q, .int .i64 c.tr, .int .i64 k, .int .i64 c.ast, .bool c.ac, .int .i64 c.si, .int .i64 c.tot, .int .i64 c.de, .int .i64 c.cy] 40 (0, 0))
structure RBC (w : World) (b : Nat) (q k : Int) (c : PP) : Prop where
  c0 : w.cell? ⟨b, 0, none⟩ = some (.int .i64 q)
  c1 : w.cell? ⟨b, 1, none⟩ = some (.int .i64 c.tr)
  c2 : w.cell? ⟨b, 2, none⟩ = some (.int .i64 k)
  c3 : w.cell? ⟨b, 3, none⟩ = some (.int .i64 c.ast)
  c4 : w.cell? ⟨b, 4, none⟩ = some (.bool c.ac)
  c5 : w.cell? ⟨b, 5, none⟩ = some (.int .i64 c.si)
  c6 : w.cell? ⟨b, 6, none⟩ = some (.int .i64 c.tot)
  c7 : w.cell? ⟨b, 7, none⟩ = some (.int .i64 c.de)
  c8 : w.cell? ⟨b, 8, none⟩ = some (.int .i64 c.cy)
theorem RB.cells {w : World} {b : Nat} {q k : Int} {c : PP} (h : RB w b q k c) : RBC w b q k c := by
  constructor <;> (rw [cellOf h]; rfl)
theorem RB.only {w w' : World} {b p : Nat} {q k : Int} {c : PP} (h : RB w b q k c) (ho : Only w w' p) (hn : b ≠ p) : RB w' b q k c := (ho.block b (ltOf h) hn).trans h
theorem RB.below {w w' : World} {b n : Nat} {q k : Int} {c : PP} (h : RB w b q k c) (ho : Below n w w') (hn : b < n) : RB w' b q k c := (ho.block b hn).trans h
theorem RB.new (w : World) (q k : Int) (c : PP) : RB (w.alloc (.cells #[.int .i64 q, .int .i64 c.tr, .int .i64 k, .int .i64 c.ast, .bool c.ac, .int .i64 c.si, .int .i64 c.tot, .int .i64 c.de, .int .i64 c.cy] 40)) w.heap.size q k c := heap_alloc_new _ _
theorem fzR {w : World} {b : Nat} {q k : Int} {c : PP} (h : RB w b q k c) (i : Nat) : w.frozen? ⟨b, i, none⟩ = false := frozenOf h i
def Z0 : PP := ⟨0, 0, 0, 0, 0, 0, false⟩
theorem RB.new3 (w : World) (o o' : Obj) : RB (((w.alloc o).alloc o').alloc (.cells #[.int .i64 0, .int .i64 0, .int .i64 0, .int .i64 0, .bool false, .int .i64 0, .int .i64 0, .int .i64 0, .int .i64 0] 40)) (w.heap.size + 1 + 1) 0 0 Z0 := by
  have := heap_alloc_new ((w.alloc o).alloc o') (.cells #[.int .i64 0, .int .i64 0, .int .i64 0, .int .i64 0, .bool false, .int .i64 0, .int .i64 0, .int .i64 0, .int .i64 0] 40)
  rw [World.size_alloc, World.size_alloc] at this
  exact this
theorem three (w : World) (o o' o2 : Obj) : Below w.heap.size w (((w.alloc o).alloc o').alloc o2) := (both w o o').alloc (by simp; omega) _
end Go.Proofs.Ytembhdlhhhdpiaa
