/- The walk of raw's Get. -/
import Derived.Test.YtccakpbgmgogeaaRawE
import Derived.Defers
import Derived.Recover
import Derived.Laws.Pointers
namespace Go.Proofs.Ytccakpbgmgogeaa
open Go.RowKit RawPlain

/-- an entry's cells -/
def ev (x : E) : List Value := [.int .u8 x.kind, .int .i64 x.tenant, .int .u8 x.code, .int .u64 x.h, .int .i64 x.a, .int .i64 x.b, .int .u64 x.v, .int .i64 x.worker, .int .u8 x.micro]
theorem heap_lt {w : World} {g : Nat} {o : Obj} (h : w.heap[g]? = some o) : g < w.heap.size := by
  rcases Nat.lt_or_ge g w.heap.size with k | k
  · exact k
  · rw [Array.getElem?_eq_none k] at h; cases h
theorem heap_alloc_old {w : World} {g : Nat} {o : Obj} (h : w.heap[g]? = some o) (x : Obj) : (w.alloc x).heap[g]? = some o := (Below.heap_alloc w x g (heap_lt h)).trans h
theorem heap_row_other {w : World} {g p : Nat} {o : Obj} (h : w.heap[g]? = some o) (hne : g ≠ p) (C : Array Value) : (w.setRow p C).heap[g]? = some o := (setRow_other w p g C hne).trans h
theorem heap_cell_other {w : World} {g p i : Nat} {o : Obj} (h : w.heap[g]? = some o) (hne : g ≠ p) (v : Value) : (w.setCell ⟨p, i, none⟩ v).heap[g]? = some o := (Below.heap_setCell w _ v g hne).trans h
theorem heap_cell_same {w : World} {p i : Nat} {C : Array Value} {t : TypeId} {fr : Nat × Nat} (h : w.heap[p]? = some (.cells C t fr)) (v : Value) : (w.setCell ⟨p, i, none⟩ v).heap[p]? = some (.cells (C.setIfInBounds i v) t fr) := by
  rw [setCell_eq_setRow w p i C t fr v h]; exact setRow_heap w p C _ t fr h
theorem frozen_row {w : World} {g : Nat} {C : Array Value} {t : TypeId} (h : w.heap[g]? = some (.cells C t (0, 0))) (i : Nat) : w.frozen? ⟨g, i, none⟩ = false := by simp [World.frozen?, h]
theorem below_row {B : Nat} {a w : World} (h : Below B a w) {g : Nat} (hg : B ≤ g) (C : Array Value) : Below B a (w.setRow g C) :=
  ⟨h.os, h.tape, h.output, by rw [setRow_size]; exact h.size, fun k hk => (setRow_other w g k C (by omega)).trans (h.block k hk)⟩
def zeros : Array Value := #[.int .u8 0, .int .i64 0, .int .u8 0, .int .u64 0, .int .i64 0, .int .i64 0, .int .u64 0, .int .i64 0, .int .u8 0]
theorem zeros_one : zeros.all (·.oneCell') = true := by kernel_rfl
theorem info26 : (Try.prog.info? 26).map (·.size) = some zeros.size := by kernel_rfl
theorem catch_panicking (p q : Nat) (w : World) (C : Array Value) (ce : Value) (hp : w.heap[p]? = some (.cells C 26 (0, 0))) (hC : C.size = 9) (hq : w.heap[q]? = some (.cells #[ce] 28 (0, 0))) (hpq : p ≠ q) :
    CallsD Try.prog 24 #[.pointer (some ⟨p, 0, none⟩), .pointer (some ⟨q, 0, none⟩)] (.panicking chain) w fun e u' w' =>
      e = .returned (.tuple #[]) ∧ u' = .panicking [{ v := .iface 55 (.agg #[]), recovered := true }] ∧ w'.heap[p]? = some (.cells zeros 26 (0, 0)) ∧ w'.heap[q]? = some (.cells #[.int .i64 250] 28 (0, 0)) ∧ w.heap.size < w'.heap.size ∧ ∀ B, B ≤ p → B ≤ q → Below B w w' := by
  have hta : ∀ w, (Instr.typeAssert (.iface 55 (.agg #[])) 20 55 true).run Try.prog w = .ok (.tuple #[.agg #[], .bool true]) w := fun w => by kernel_rfl
  have hp1 : (w.alloc (.cells #[] 55)).heap[p]? = some (.cells C 26 (0, 0)) := heap_alloc_old hp _
  have hq1 : ((w.alloc (.cells #[] 55)).setRow p zeros).heap[q]? = some (.cells #[ce] 28 (0, 0)) := heap_row_other (heap_alloc_old hq _) (Ne.symm hpq) _
  have hqc := cell_of_row _ _ 0 _ _ _ hq1
  have hqf := frozen_row hq1 0
  have hp2 := Lib.hid (heap_cell_other (i := 0) (setRow_heap _ p _ zeros _ _ hp1) hpq (Value.int .i64 250))
  have hq2 := Lib.hid (heap_cell_same (i := 0) hq1 (Value.int .i64 250))
  have HB : Hid (∀ B, B ≤ p → B ≤ q → Below B w (((w.alloc (.cells #[] 55)).setRow p zeros).setCell ⟨q, 0, none⟩ (.int .i64 250))) := Lib.hid (fun B h1 h2 => (below_row ((Below.refl B w).alloc (Nat.le_trans h1 (Nat.le_of_lt (heap_lt hp))) _) h1 _).setCell h2 _)
  clear hq hq1 hp
  refine callsD_of_wpS Try.func24 rfl fun c₀ cs hu => ?_
  simp only [Try.ntmps24, List.size_toArray, List.length_cons, List.length_nil, Nat.reduceAdd, Nat.reduceSub, Array.replicate_succ,
     Array.replicate_zero, List.push_toArray, List.append_toArray, List.nil_append, List.cons_append]
  apply wpS_seq
  apply wpS_region
  simp [wpOpsS, go_sem, recoverD, hu, Exit.thenS, chain]
  refine wpS_of_wp ?_
  go_wp2_with (refine wpList_store_row rfl _ _ _ rfl p zeros rfl rfl 26 C hp1 info26 hC zeros_one ?_)
  simp [bodyPostS, results, Try.results24]
  exact ⟨hp2.out, hq2.out, HB.out⟩
theorem catch_idle (p q : Nat) (w : World) :
    CallsD Try.prog 24 #[.pointer (some ⟨p, 0, none⟩), .pointer (some ⟨q, 0, none⟩)] .returning w fun e u' w' => e = .returned (.tuple #[]) ∧ u' = .returning ∧ w = w' := by
  refine callsD_of_wpS Try.func24 rfl fun c₀ cs hu => ?_
  simp only [Try.ntmps24, List.size_toArray, List.length_cons, List.length_nil, Nat.reduceAdd, Nat.reduceSub, Array.replicate_succ,
     Array.replicate_zero, List.push_toArray, List.append_toArray, List.nil_append, List.cons_append]
  apply wpS_seq
  apply wpS_region
  simp [wpOpsS, go_sem, recoverD, hu, Exit.thenS]
  refine wpS_of_wp ?_
  go_wp2_with fail
  cases c₀
  simp_all [bodyPostS, results, Try.results24]

/-- the state between two reads -/
structure GS (w0 w : World) (x : E) (p : Nat) (l : List UInt8) : Prop where
  hx : w.heap[w0.heap.size]? = some (.cells (ev x).toArray 26 (0, 0))
  he : w.heap[w0.heap.size + 1]? = some (.cells #[.int .i64 0] 28 (0, 0))
  rd : Rd w (w0.heap.size + 2) p l
  bl : Below w0.heap.size w0 w
theorem GS.call {w0 w w' : World} {x : E} {p : Nat} {l l' : List UInt8} {s : Value} (g : GS w0 w x p l) (hr : Rd w' (w0.heap.size + 2) p l') (hw : w' = w.setCell ⟨p, 0, none⟩ s) : GS w0 w' x p l' := by
  have := g.rd.pB
  subst hw
  exact ⟨heap_cell_other g.hx (by omega) _, heap_cell_other g.he (by omega) _, hr, g.bl.setCell (by show w0.heap.size ≤ p; omega) _⟩
theorem GS.store {w0 w : World} {x y : E} {p : Nat} {l : List UInt8} {i : Nat} {v : Value} (g : GS w0 w x p l) (h : (ev x).set i v = ev y) : GS w0 (w.setCell ⟨w0.heap.size, i, none⟩ v) y p l := by
  have h1 := g.rd.pB
  obtain ⟨r1, r2, r3, r4, gg, off, cap, r5, r6, r7, r8, r9, r10, r11⟩ := g.rd
  refine ⟨?_, heap_cell_other g.he (by omega) _, ⟨r1, r2, by simpa using r3, by rw [World.frozen?_setCell]; exact r4, gg, off, cap, r5, by simpa using r6, r7, r8, r9, ?_, fun j hj => ?_⟩, g.bl.setCell (Nat.le_refl _) _⟩
  · rw [heap_cell_same g.hx]
    simp [h]
  · rw [World.cell?_setCell_other _ _ _ _ (addr_ne (by omega))]; exact r10
  · rw [World.cell?_setCell_other _ _ _ _ (addr_ne (by omega))]; exact r11 j hj
theorem GS.cell {w0 w : World} {x : E} {p : Nat} {l : List UInt8} (g : GS w0 w x p l) (i : Nat) : w.cell? ⟨w0.heap.size, i, none⟩ = (ev x)[i]? := by
  rw [cell_of_row _ _ _ _ _ _ g.hx]; simp
theorem GS.froz {w0 w : World} {x : E} {p : Nat} {l : List UInt8} (g : GS w0 w x p l) (i : Nat) : w.frozen? ⟨w0.heap.size, i, none⟩ = false := frozen_row g.hx i

end Go.Proofs.Ytccakpbgmgogeaa
