/- What End does to a pacer. -/
import Derived.Test.YtembhdlhhhdpiaaPaceOps
namespace Go.Proofs.Ytembhdlhhhdpiaa
open Go.RowKit SatPlain

/-- End's own: a cycle more -/
theorem end1 (w : World) (p q : Nat) (c : PP) (h : Pc w p c) (hq : w.heap[q]? = some (.cells #[.pointer (some ⟨p, 0, none⟩)] 27 (0, 0))) (hc : Mst c.cy) :
    Calls Try.prog 24 #[.pointer (some ⟨q, 0, none⟩)] w fun e w' => e = .returned (.tuple #[]) ∧ Pc w' p { c with cy := clip (c.cy + 1) } ∧ Only w w' p := by
  have q0 : w.cell? ⟨q, 0, none⟩ = some (.pointer (some ⟨p, 0, none⟩)) := by rw [cellOf hq]; rfl
  have h5 := h.cells.c5
  have f5 := fz h 5
  have a := fun w => pAdd_any c.cy 1 hc.i64 ⟨by decide, by decide⟩ w
  have HP := Lib.hid h
  clear h hq
  go_enter Try.func24, Try.ntmps24
  go_wp2_with fail
  go_region_with (go_at_call 25; refine (a _).mono ?_; rintro e w' ⟨rfl, rfl⟩)
  all_goals (go_wp2_with fail; go_end0; exact ⟨rfl, setOf HP.out 5 _, ((Only.refl _ _).stored _ _).drew⟩)

theorem pEnd_any (w : World) (p : Nat) (c : PP) (h : Pc w p c) (g : c.Good) : Calls Try.prog 10 #[.pointer (some ⟨p, 0, none⟩)] w fun e w' => e = .returned (.int .i64 (tnE c false)) ∧ Pc w' p (tnC c false) ∧ Only w w' p := by
  have hlt := ltOf h
  have key : ∀ w1 q, Pc w1 p c → w1.heap[q]? = some (.cells #[.pointer (some ⟨p, 0, none⟩)] 27 (0, 0)) → p ≠ q →
      Calls Try.prog 22 #[.pointer (some ⟨p, 0, none⟩), .bool false, .func (.func 24) #[] #[.pointer (some ⟨q, 0, none⟩)]] w1 fun e w' => e = .returned (.int .i64 (tnE c false)) ∧ Pc w' p (tnC c false) ∧ Only w1 w' p := by
    intro w1 q h1 hq hpq
    have d := none_any w1 p c h1 g.tr0
    have h6 := h1.cells.c6
    have f6 := fz h1 6
    have f2 := fz h1 2
    have f4 := fz h1 4
    have e2 : w1.cell? ⟨p, 2, none⟩ = some (.int .i64 c.si) := h1.cells.c2
    have e4 : w1.cell? ⟨p, 4, none⟩ = some (.int .i64 c.de) := h1.cells.c4
    have HP := Lib.hid h1
    have HQ := Lib.hid hq
    have HG := Lib.hid g
    have HN := Lib.hid hpq
    clear h g h1 hq hlt hpq
    by_cases ha : c.ac = false
    · have e1 : tnE c false = 9 := by unfold tnE; rw [if_pos ha]
      have e3 : tnC c false = c := by unfold tnC; rw [if_pos ha]
      rw [e1, e3]
      rw [ha] at h6
      go_enter Try.func22, Try.ntmps22
      go_wp2_with (go_at_call 26; refine d.mono ?_; rintro e w' ⟨rfl, rfl⟩)
      go_ret
      exact ⟨rfl, HP.out, Only.refl _ _⟩
    · have ha' : c.ac = true := by simpa using ha
      have e1 : tnE c false = 0 := by unfold tnE; rw [if_neg ha]
      rw [e1]
      rw [ha'] at h6
      go_enter Try.func22, Try.ntmps22
      go_wp2_with (go_at_call 26; refine d.mono ?_; rintro e w' ⟨rfl, rfl⟩)
      have hh := setOf (setOf (setOf HP.out 6 (.bool false)) 2 (.int .i64 0)) 4 (.int .i64 0)
      have ho : Only w1 (((w1.setCell ⟨p, 6, none⟩ (.bool false)).setCell ⟨p, 2, none⟩ (.int .i64 0)).setCell ⟨p, 4, none⟩ (.int .i64 0)) p := (((Only.refl _ _).stored _ _).stored _ _).stored _ _
      refine (end1 _ p q { c with ac := false, si := 0, de := 0 } hh ((ho.block q (ltOf HQ.out) (fun x => HN.out x.symm)).trans HQ.out) HG.out.cy).mono ?_
      rintro e w' ⟨rfl, h3, o3⟩
      go_wp2_with fail
      go_ret
      refine ⟨rfl, ?_, ho.trans o3⟩
      unfold tnC
      rw [if_neg ha]
      exact h3
  have h1 : Pc (w.alloc (.cells #[.pointer (some ⟨p, 0, none⟩)] 27)) p c := h.only ((Only.refl _ w.heap.size).alloc _) (by omega)
  have hq : (w.alloc (.cells #[.pointer (some ⟨p, 0, none⟩)] 27)).heap[w.heap.size]? = some (.cells #[.pointer (some ⟨p, 0, none⟩)] 27 (0, 0)) := heap_alloc_new _ _
  have q0 : (w.alloc (.cells #[.pointer (some ⟨p, 0, none⟩)] 27)).cell? ⟨w.heap.size, 0, none⟩ = some (.pointer (some ⟨p, 0, none⟩)) := by rw [cellOf hq]; rfl
  have t := key _ _ h1 hq (by omega)
  have ho : Only w (w.alloc (.cells #[.pointer (some ⟨p, 0, none⟩)] 27)) p := (Only.refl _ _).alloc _
  have HO := Lib.hid ho
  clear key h h1 hq ho g hlt
  go_enter Try.func10, Try.ntmps10
  go_wp2_with (go_at_call 22; refine t.mono ?_; rintro e w' ⟨rfl, h3, o3⟩)
  go_ret
  exact ⟨rfl, h3, HO.out.trans o3⟩
end Go.Proofs.Ytembhdlhhhdpiaa
