/- What a pacer is in memory; its readers. -/
import Derived.Test.YtembhdlhhhdpiaaSatM
import Derived.RegionTactic
import Derived.ChangeAlike
import Derived.Deep.RegionWith
import Derived.BigQuiet
namespace Go.Proofs.Ytembhdlhhhdpiaa
open Go.RowKit SatPlain

/-- of blocks that were there none but p has turned -/
structure Only (w w' : World) (p : Nat) : Prop where
  os : w'.os = w.os
  tape : w'.tape = w.tape
  output : w'.output = w.output
  size : w.heap.size ≤ w'.heap.size
  block : ∀ k, k < w.heap.size → k ≠ p → w'.heap[k]? = w.heap[k]?
theorem Only.refl (w : World) (p : Nat) : Only w w p := ⟨rfl, rfl, rfl, Nat.le_refl _, fun _ _ _ => rfl⟩
theorem Only.trans {w w1 w2 : World} {p : Nat} (h : Only w w1 p) (h2 : Only w1 w2 p) : Only w w2 p :=
  ⟨h2.os.trans h.os, h2.tape.trans h.tape, h2.output.trans h.output, Nat.le_trans h.size h2.size, fun k hk h1 => (h2.block k (Nat.lt_of_lt_of_le hk h.size) h1).trans (h.block k hk h1)⟩
theorem Only.below {w w' : World} {p B : Nat} (h : Only w w' p) (hp : B ≤ p) (hB : B ≤ w.heap.size) : Below B w w' :=
  ⟨h.os, h.tape, h.output, h.size, fun k hk => h.block k (by omega) (by omega)⟩
theorem Only.stored {w w' : World} {p : Nat} (h : Only w w' p) (i : Nat) (u : Value) : Only w (w'.setCell ⟨p, i, none⟩ u) p :=
  h.trans ⟨rfl, rfl, rfl, by simp [World.setCell], fun k _ h1 => Below.heap_setCell _ _ _ _ (by intro e; exact h1 (e.symm ▸ rfl))⟩
theorem Only.drew {w w' : World} {p : Nat} (h : Only w w' p) : Only w w'.drew p := ⟨h.os, h.tape, h.output, h.size, h.block⟩
theorem Only.ofBelow {w w' : World} {p : Nat} (h : Below w.heap.size w w') : Only w w' p := ⟨h.os, h.tape, h.output, h.size, fun k hk _ => h.block k hk⟩
theorem Only.alloc {w w' : World} {p : Nat} (h : Only w w' p) (o : Obj) : Only w (w'.alloc o) p := h.trans (Only.ofBelow ((Below.refl _ _).alloc (Nat.le_refl _) _))

theorem cellOf {w : World} {b : Nat} {cs : Array Value} {t : TypeId} (h : w.heap[b]? = some (.cells cs t (0, 0))) (i : Nat) : w.cell? ⟨b, i, none⟩ = cs[i]? := cell_of_row w b i cs t (0, 0) h
theorem frozenOf {w : World} {b : Nat} {cs : Array Value} {t : TypeId} (h : w.heap[b]? = some (.cells cs t (0, 0))) (i : Nat) : w.frozen? ⟨b, i, none⟩ = false := by
  simp [World.frozen?, h]
theorem ltOf {w : World} {b : Nat} {o : Obj} (h : w.heap[b]? = some o) : b < w.heap.size := by
  rcases Nat.lt_or_ge b w.heap.size with hlt | hge
  · exact hlt
  · rw [Array.getElem?_eq_none hge] at h; cases h
theorem setOf {w : World} {b : Nat} {cs : Array Value} {t : TypeId} (h : w.heap[b]? = some (.cells cs t (0, 0))) (i : Nat) (u : Value) :
    (w.setCell ⟨b, i, none⟩ u).heap[b]? = some (.cells (cs.setIfInBounds i u) t (0, 0)) := by
  simp [World.setCell, Array.getElem?_modify, h]

/-- a pacer's counts -/
structure PP where
  tr : Int
  ast : Int
  si : Int
  tot : Int
  de : Int
  cy : Int
  ac : Bool
def Pc (w : World) (p : Nat) (c : PP) : Prop :=
  w.heap[p]? = some (.cells #[.int .i64 c.tr, .int .i64 c.ast, .int .i64 c.si, .int .i64 c.tot, .int .i64 c.de, .int .i64 c.cy, .bool c.ac] 50 (0, 0))
def Mst (n : Int) : Prop := 0 ≤ n ∧ n ≤ 4611686018427387904
theorem Mst.i64 {n : Int} (h : Mst n) : I64 n := ⟨by have := h.1; omega, by have := h.2; omega⟩
theorem Mst.clip (n : Int) : Mst (clip n) := ⟨clip_lo n, clip_hi n⟩
structure PP.Good (c : PP) : Prop where
  tr0 : 1 ≤ c.tr
  tr1 : c.tr ≤ 1048576
  as0 : 0 ≤ c.ast
  as1 : c.ast ≤ 1024
  si0 : 0 ≤ c.si
  si1 : c.si < c.tr
  tot : Mst c.tot
  de : Mst c.de
  cy : Mst c.cy
theorem Pc.keep {w w' : World} {p : Nat} {c : PP} (h : Pc w p c) (e : w'.heap[p]? = w.heap[p]?) : Pc w' p c := e.trans h
theorem Pc.below {w w' : World} {p B : Nat} {c : PP} (h : Pc w p c) (hb : Below B w w') (hp : p < B) : Pc w' p c := h.keep (hb.block p hp)
theorem Pc.only {w w' : World} {p q : Nat} {c : PP} (h : Pc w p c) (ho : Only w w' q) (hp : p ≠ q) : Pc w' p c := h.keep (ho.block p (ltOf h) hp)

/-- the cells that a walk loads and stores -/
structure PcC (w : World) (p : Nat) (c : PP) : Prop where
  c0 : w.cell? ⟨p, 0, none⟩ = some (.int .i64 c.tr)
  c1 : w.cell? ⟨p, 1, none⟩ = some (.int .i64 c.ast)
  c2 : w.cell? ⟨p, 2, none⟩ = some (.int .i64 c.si)
  c3 : w.cell? ⟨p, 3, none⟩ = some (.int .i64 c.tot)
  c4 : w.cell? ⟨p, 4, none⟩ = some (.int .i64 c.de)
  c5 : w.cell? ⟨p, 5, none⟩ = some (.int .i64 c.cy)
  c6 : w.cell? ⟨p, 6, none⟩ = some (.bool c.ac)
theorem Pc.cells {w : World} {p : Nat} {c : PP} (h : Pc w p c) : PcC w p c := by
  constructor <;> (rw [cellOf h]; rfl)

theorem none_nil (w : World) : Calls Try.prog 26 #[.pointer none] w fun e w' => e = .returned (.bool true) ∧ w = w' := by
  go_enter Try.func26, Try.ntmps26
  go_wp2
  go_ret
  exact ⟨rfl, rfl⟩
theorem none_zero (w : World) (p : Nat) (c : PP) (h : Pc w p c) (hz : c.tr = 0) : Calls Try.prog 26 #[.pointer (some ⟨p, 0, none⟩)] w fun e w' => e = .returned (.bool true) ∧ w = w' := by
  have h0 := h.cells.c0
  rw [hz] at h0
  clear h hz
  go_enter Try.func26, Try.ntmps26
  go_wp2
  go_ret
  exact ⟨rfl, rfl⟩
theorem none_any (w : World) (p : Nat) (c : PP) (h : Pc w p c) (hz : 1 ≤ c.tr) : Calls Try.prog 26 #[.pointer (some ⟨p, 0, none⟩)] w fun e w' => e = .returned (.bool false) ∧ w = w' := by
  have h0 := h.cells.c0
  have hz : (c.tr == 0) = false := by rw [beq_eq_false_iff_ne]; omega
  clear h
  go_enter Try.func26, Try.ntmps26
  go_wp2
  go_ret
  exact ⟨rfl, rfl⟩
theorem pDebt_any (w : World) (p : Nat) (c : PP) (h : Pc w p c) (hz : 1 ≤ c.tr) : Calls Try.prog 14 #[.pointer (some ⟨p, 0, none⟩)] w fun e w' => e = .returned (.int .i64 c.de) ∧ w = w' := by
  have d := none_any w p c h hz
  have h0 := h.cells.c4
  clear h
  go_enter Try.func14, Try.ntmps14
  go_wp2_with (go_at_call 26; refine d.mono ?_; rintro e w' ⟨rfl, rfl⟩)
  go_ret
  exact ⟨rfl, rfl⟩
theorem pDebt_none (w : World) (v : Value) (d : Calls Try.prog 26 #[v] w fun e w' => e = .returned (.bool true) ∧ w = w') : Calls Try.prog 14 #[v] w fun e w' => e = .returned (.int .i64 0) ∧ w = w' := by
  go_enter Try.func14, Try.ntmps14
  go_wp2_with (go_at_call 26; refine d.mono ?_; rintro e w' ⟨rfl, rfl⟩)
  go_ret
  exact ⟨rfl, rfl⟩
theorem pSince_any (w : World) (p : Nat) (c : PP) (h : Pc w p c) (hz : 1 ≤ c.tr) : Calls Try.prog 12 #[.pointer (some ⟨p, 0, none⟩)] w fun e w' => e = .returned (.int .i64 c.si) ∧ w = w' := by
  have d := none_any w p c h hz
  have h0 := h.cells.c2
  clear h
  go_enter Try.func12, Try.ntmps12
  go_wp2_with (go_at_call 26; refine d.mono ?_; rintro e w' ⟨rfl, rfl⟩)
  go_ret
  exact ⟨rfl, rfl⟩
theorem pSince_none (w : World) (v : Value) (d : Calls Try.prog 26 #[v] w fun e w' => e = .returned (.bool true) ∧ w = w') : Calls Try.prog 12 #[v] w fun e w' => e = .returned (.int .i64 0) ∧ w = w' := by
  go_enter Try.func12, Try.ntmps12
  go_wp2_with (go_at_call 26; refine d.mono ?_; rintro e w' ⟨rfl, rfl⟩)
  go_ret
  exact ⟨rfl, rfl⟩
theorem pTotal_any (w : World) (p : Nat) (c : PP) (h : Pc w p c) (hz : 1 ≤ c.tr) : Calls Try.prog 13 #[.pointer (some ⟨p, 0, none⟩)] w fun e w' => e = .returned (.int .i64 c.tot) ∧ w = w' := by
  have d := none_any w p c h hz
  have h0 := h.cells.c3
  clear h
  go_enter Try.func13, Try.ntmps13
  go_wp2_with (go_at_call 26; refine d.mono ?_; rintro e w' ⟨rfl, rfl⟩)
  go_ret
  exact ⟨rfl, rfl⟩
theorem pTotal_none (w : World) (v : Value) (d : Calls Try.prog 26 #[v] w fun e w' => e = .returned (.bool true) ∧ w = w') : Calls Try.prog 13 #[v] w fun e w' => e = .returned (.int .i64 0) ∧ w = w' := by
  go_enter Try.func13, Try.ntmps13
  go_wp2_with (go_at_call 26; refine d.mono ?_; rintro e w' ⟨rfl, rfl⟩)
  go_ret
  exact ⟨rfl, rfl⟩
theorem pCycles_any (w : World) (p : Nat) (c : PP) (h : Pc w p c) (hz : 1 ≤ c.tr) : Calls Try.prog 21 #[.pointer (some ⟨p, 0, none⟩)] w fun e w' => e = .returned (.int .i64 c.cy) ∧ w = w' := by
  have d := none_any w p c h hz
  have h0 := h.cells.c5
  clear h
  go_enter Try.func21, Try.ntmps21
  go_wp2_with (go_at_call 26; refine d.mono ?_; rintro e w' ⟨rfl, rfl⟩)
  go_ret
  exact ⟨rfl, rfl⟩
theorem pCycles_none (w : World) (v : Value) (d : Calls Try.prog 26 #[v] w fun e w' => e = .returned (.bool true) ∧ w = w') : Calls Try.prog 21 #[v] w fun e w' => e = .returned (.int .i64 0) ∧ w = w' := by
  go_enter Try.func21, Try.ntmps21
  go_wp2_with (go_at_call 26; refine d.mono ?_; rintro e w' ⟨rfl, rfl⟩)
  go_ret
  exact ⟨rfl, rfl⟩
theorem pActive_any (w : World) (p : Nat) (c : PP) (h : Pc w p c) (hz : 1 ≤ c.tr) : Calls Try.prog 15 #[.pointer (some ⟨p, 0, none⟩)] w fun e w' => e = .returned (.bool c.ac) ∧ w = w' := by
  have d := none_any w p c h hz
  have h0 := h.cells.c6
  clear h
  go_enter Try.func15, Try.ntmps15
  go_wp2_with (go_at_call 26; refine d.mono ?_; rintro e w' ⟨rfl, rfl⟩)
  go_ret
  exact ⟨rfl, rfl⟩
theorem pActive_none (w : World) (v : Value) (d : Calls Try.prog 26 #[v] w fun e w' => e = .returned (.bool true) ∧ w = w') : Calls Try.prog 15 #[v] w fun e w' => e = .returned (.bool false) ∧ w = w' := by
  go_enter Try.func15, Try.ntmps15
  go_wp2_with (go_at_call 26; refine d.mono ?_; rintro e w' ⟨rfl, rfl⟩)
  go_ret
  exact ⟨rfl, rfl⟩
end Go.Proofs.Ytembhdlhhhdpiaa
