/- What a pacer's writers do. -/
import Derived.Test.YtembhdlhhhdpiaaPaceMem
namespace Go.Proofs.Ytembhdlhhhdpiaa
open Go.RowKit SatPlain

def tnE (c : PP) (a : Bool) : Int := if c.ac = a then 9 else 0
def tnC (c : PP) (a : Bool) : PP := if c.ac = a then c else { c with ac := a, si := 0, de := 0, cy := if a then c.cy else clip (c.cy + 1) }
theorem tnC_good {c : PP} (g : c.Good) (a : Bool) : (tnC c a).Good := by
  unfold tnC
  split
  · exact g
  · refine ⟨g.tr0, g.tr1, g.as0, g.as1, by simp, ?_, g.tot, ⟨by simp, by simp⟩, ?_⟩
    · have := g.tr0; simp only; omega
    · simp only; split
      · exact g.cy
      · exact Mst.clip _

theorem fz {w : World} {p : Nat} {c : PP} (h : Pc w p c) (i : Nat) : w.frozen? ⟨p, i, none⟩ = false := frozenOf h i

theorem begin1 (w : World) : Calls Try.prog 23 #[] w fun e w' => e = .returned (.tuple #[]) ∧ w = w' := by
  go_enter Try.func23, Try.ntmps23
  go_wp2
  go_end0
  exact ⟨rfl, rfl⟩

theorem pBegin_any (w : World) (p : Nat) (c : PP) (h : Pc w p c) (g : c.Good) : Calls Try.prog 9 #[.pointer (some ⟨p, 0, none⟩)] w fun e w' => e = .returned (.int .i64 (tnE c true)) ∧ Pc w' p (tnC c true) ∧ Only w w' p := by
  have d := none_any w p c h g.tr0
  have h6 := h.cells.c6
  have f6 := fz h 6
  have f2 := fz h 2
  have f4 := fz h 4
  have e2 : w.cell? ⟨p, 2, none⟩ = some (.int .i64 c.si) := h.cells.c2
  have e4 : w.cell? ⟨p, 4, none⟩ = some (.int .i64 c.de) := h.cells.c4
  have b := fun w => begin1 w
  have HP := Lib.hid h
  clear h g
  by_cases ha : c.ac = true
  · have e1 : tnE c true = 9 := by unfold tnE; rw [if_pos ha]
    have e2 : tnC c true = c := by unfold tnC; rw [if_pos ha]
    rw [e1, e2]
    rw [ha] at h6
    have turn : Calls Try.prog 22 #[.pointer (some ⟨p, 0, none⟩), .bool true, .func (.func 23) #[] #[]] w fun e w' => e = .returned (.int .i64 9) ∧ w = w' := by
      go_enter Try.func22, Try.ntmps22
      go_wp2_with (go_at_call 26; refine d.mono ?_; rintro e w' ⟨rfl, rfl⟩)
      go_ret
      exact ⟨rfl, rfl⟩
    go_enter Try.func9, Try.ntmps9
    go_wp2_with (go_at_call 22; refine turn.mono ?_; rintro e w' ⟨rfl, rfl⟩)
    go_ret
    exact ⟨rfl, HP.out, Only.refl _ _⟩
  · have ha' : c.ac = false := by simpa using ha
    have e1 : tnE c true = 0 := by unfold tnE; rw [if_neg ha]
    rw [e1]
    rw [ha'] at h6
    have turn : Calls Try.prog 22 #[.pointer (some ⟨p, 0, none⟩), .bool true, .func (.func 23) #[] #[]] w fun e w' => e = .returned (.int .i64 0) ∧ Pc w' p (tnC c true) ∧ Only w w' p := by
      go_enter Try.func22, Try.ntmps22
      go_wp2_with (go_at_call 26; refine d.mono ?_; rintro e w' ⟨rfl, rfl⟩)
      refine (b _).mono ?_
      rintro e w' ⟨rfl, rfl⟩
      go_wp2_with fail
      go_ret
      refine ⟨rfl, ?_, (((Only.refl _ _).stored _ _).stored _ _).stored _ _⟩
      have hh := setOf (setOf (setOf HP.out 6 (.bool true)) 2 (.int .i64 0)) 4 (.int .i64 0)
      unfold tnC
      rw [if_neg ha]
      exact hh
    go_enter Try.func9, Try.ntmps9
    go_wp2_with (go_at_call 22; refine turn.mono ?_; rintro e w' ⟨rfl, hh, ho⟩)
    go_ret
    exact ⟨rfl, hh, ho⟩

end Go.Proofs.Ytembhdlhhhdpiaa
