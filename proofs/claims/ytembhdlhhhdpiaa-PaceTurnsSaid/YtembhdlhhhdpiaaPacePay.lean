/- What Pay, New and Copy do. -/
import Derived.Test.YtembhdlhhhdpiaaPaceEnd
namespace Go.Proofs.Ytembhdlhhhdpiaa
open Go.RowKit SatPlain

def payC (c : PP) (n : Int) : PP := { c with de := clip (c.de - (if n < 0 then 0 else n)) }
def payR (c : PP) (n : Int) : Int := if (payC c n).de < 2147483647 then (payC c n).de else 2147483647
theorem payC_good {c : PP} (g : c.Good) (n : Int) : (payC c n).Good := ⟨g.tr0, g.tr1, g.as0, g.as1, g.si0, g.si1, g.tot, Mst.clip _, g.cy⟩

theorem pPay_none (w : World) (v : Value) (n : Int) (d : Calls Try.prog 26 #[v] w fun e w' => e = .returned (.bool true) ∧ w = w') :
    Calls Try.prog 20 #[v, .int .i64 n] w fun e w' => e = .returned (.int .i64 0) ∧ w = w' := by
  go_enter Try.func20, Try.ntmps20
  go_wp2_with (go_at_call 26; refine d.mono ?_; rintro e w' ⟨rfl, rfl⟩)
  go_ret
  exact ⟨rfl, rfl⟩

theorem pPay_any (w : World) (p : Nat) (c : PP) (n : Int) (h : Pc w p c) (g : c.Good) (hn : I64 n) :
    Calls Try.prog 20 #[.pointer (some ⟨p, 0, none⟩), .int .i64 n] w fun e w' => e = .returned (.int .i64 (payR c n)) ∧ Pc w' p (payC c n) ∧ Only w w' p := by
  have d := none_any w p c h g.tr0
  have e4 : w.cell? ⟨p, 4, none⟩ = some (.int .i64 c.de) := h.cells.c4
  have f4 := fz h 4
  have a := fun w => pSub_any c.de (if n < 0 then 0 else n) g.de.i64 (by split; exact ⟨by decide, by decide⟩; exact hn) w
  have hp : (payC c n).de = clip (c.de - (if n < 0 then 0 else n)) := rfl
  have hM := Mst.clip (c.de - (if n < 0 then 0 else n))
  have HP := Lib.hid h
  clear h g
  unfold payR
  rw [hp]
  obtain ⟨m0, m1⟩ := hM
  obtain ⟨n0, n1⟩ := hn
  have HR : Hid (∀ w1 : World, w1 = w.setCell ⟨p, 4, none⟩ (.int .i64 (clip (c.de - (if n < 0 then 0 else n)))) → Pc w1 p (payC c n)) := by rintro _ rfl; exact setOf HP.out 4 _
  clear hp
  generalize hS : clip (c.de - (if n < 0 then 0 else n)) = S at *
  have HS := Lib.hid hS
  clear hS
  by_cases h0 : n < 0
  · simp only [if_pos h0] at a
    by_cases hs : S < 2147483647
    · rw [if_pos hs]
      go_enter Try.func20, Try.ntmps20
      go_wp2_with (first | (go_at_call 26; refine d.mono ?_; rintro e w' ⟨rfl, rfl⟩) | (go_at_call 31; refine (a _).mono ?_; rintro e w' ⟨rfl, rfl⟩))
      go_ret
      exact ⟨rfl, HR.out _ rfl, (Only.refl _ _).stored _ _⟩
    · rw [if_neg hs]
      go_enter Try.func20, Try.ntmps20
      go_wp2_with (first | (go_at_call 26; refine d.mono ?_; rintro e w' ⟨rfl, rfl⟩) | (go_at_call 31; refine (a _).mono ?_; rintro e w' ⟨rfl, rfl⟩))
      all_goals (go_ret; exact ⟨ret_int (by omega), HR.out _ rfl, (Only.refl _ _).stored _ _⟩)
  · simp only [if_neg h0] at a
    by_cases hs : S < 2147483647
    · rw [if_pos hs]
      go_enter Try.func20, Try.ntmps20
      go_wp2_with (first | (go_at_call 26; refine d.mono ?_; rintro e w' ⟨rfl, rfl⟩) | (go_at_call 31; refine (a _).mono ?_; rintro e w' ⟨rfl, rfl⟩))
      go_ret
      exact ⟨rfl, HR.out _ rfl, (Only.refl _ _).stored _ _⟩
    · rw [if_neg hs]
      go_enter Try.func20, Try.ntmps20
      go_wp2_with (first | (go_at_call 26; refine d.mono ?_; rintro e w' ⟨rfl, rfl⟩) | (go_at_call 31; refine (a _).mono ?_; rintro e w' ⟨rfl, rfl⟩))
      all_goals (go_ret; exact ⟨ret_int (by omega), HR.out _ rfl, (Only.refl _ _).stored _ _⟩)

/-- may a tenant have a pacer? -/
def Fit (t a : Int) : Prop := 1 ≤ t ∧ t ≤ 1048576 ∧ 0 ≤ a ∧ a ≤ 1024
def new0 (t a : Int) : PP := ⟨t, a, 0, 0, 0, 0, false⟩
theorem new0_good {t a : Int} (h : Fit t a) : (new0 t a).Good := by
  obtain ⟨h0, h1, h2, h3⟩ := h
  exact ⟨h0, h1, h2, h3, Int.le_refl _, by simp only [new0]; omega, ⟨by simp [new0], by simp [new0]⟩, ⟨by simp [new0], by simp [new0]⟩, ⟨by simp [new0], by simp [new0]⟩⟩
def TV (q t c a : Int) : Value := .agg #[.int .i64 q, .int .i64 t, .int .i64 c, .int .i64 a]

theorem pNew_in (w : World) (q t c a : Int) (h : Fit t a) :
    Calls Try.prog 7 #[TV q t c a] w fun e w' => ∃ p, e = .returned (.tuple #[.pointer (some ⟨p, 0, none⟩), .int .i64 0]) ∧ Pc w' p (new0 t a) ∧ Below w.heap.size w w' ∧ w.heap.size ≤ p := by
  obtain ⟨h0, h1, h2, h3⟩ := h
  unfold TV
  have e1 : (w.alloc (.cells #[.int .i64 q, .int .i64 t, .int .i64 c, .int .i64 a] 23)).heap.size = w.heap.size + 1 := by simp
  go_enter Try.func7, Try.ntmps7
  go_wp2
  go_ret2
  refine ⟨_, rfl, ?_, ((Below.refl _ _).alloc (Nat.le_refl _) _).alloc (by simp) _, by omega⟩
  have := heap_alloc_new (w.alloc (.cells #[.int .i64 q, .int .i64 t, .int .i64 c, .int .i64 a] 23)) (.cells #[.int .i64 t, .int .i64 a, .int .i64 0, .int .i64 0, .int .i64 0, .int .i64 0, .bool false] 50)
  rw [e1] at this
  exact this
theorem pNew_out (w : World) (q t c a : Int) (h : ¬ Fit t a) :
    Calls Try.prog 7 #[TV q t c a] w fun e w' => e = .returned (.tuple #[.pointer none, .int .i64 2]) ∧ Below w.heap.size w w' := by
  unfold Fit at h
  unfold TV
  have key : t < 1 ∨ (1 ≤ t ∧ 1048576 < t) ∨ (1 ≤ t ∧ t ≤ 1048576 ∧ a < 0) ∨ (1 ≤ t ∧ t ≤ 1048576 ∧ 0 ≤ a ∧ 1024 < a) := by omega
  clear h
  rcases key with h | ⟨h0, h1⟩ | ⟨h0, h1, h2⟩ | ⟨h0, h1, h2, h3⟩
  all_goals
    go_enter Try.func7, Try.ntmps7
    go_wp2
    go_ret2
    exact ⟨rfl, (Below.refl _ _).alloc (Nat.le_refl _) _⟩
theorem pCopy_any (w : World) (p : Nat) (c : PP) (h : Pc w p c) (g : c.Good) :
    Calls Try.prog 19 #[.pointer (some ⟨p, 0, none⟩)] w fun e w' => ∃ q, e = .returned (.pointer (some ⟨q, 0, none⟩)) ∧ Pc w' q c ∧ Below w.heap.size w w' ∧ w.heap.size ≤ q := by
  have d := none_any w p c h g.tr0
  have k := h.cells
  obtain ⟨k0, k1, k2, k3, k4, k5, k6⟩ := k
  clear h g
  go_enter Try.func19, Try.ntmps19
  go_wp2_with (go_at_call 26; refine d.mono ?_; rintro e w' ⟨rfl, rfl⟩)
  go_ret
  refine ⟨_, rfl, heap_alloc_new _ _, (Below.refl _ _).alloc (Nat.le_refl _) _, by omega⟩
theorem pCopy_none (w : World) (v : Value) (d : Calls Try.prog 26 #[v] w fun e w' => e = .returned (.bool true) ∧ w = w') :
    Calls Try.prog 19 #[v] w fun e w' => e = .returned (.pointer none) ∧ w = w' := by
  go_enter Try.func19, Try.ntmps19
  go_wp2_with (go_at_call 26; refine d.mono ?_; rintro e w' ⟨rfl, rfl⟩)
  go_ret
  exact ⟨rfl, rfl⟩
theorem pTurn_none (w : World) (v f : Value) (b : Bool) (d : Calls Try.prog 26 #[v] w fun e w' => e = .returned (.bool true) ∧ w = w') :
    Calls Try.prog 22 #[v, .bool b, f] w fun e w' => e = .returned (.int .i64 1) ∧ w = w' := by
  go_enter Try.func22, Try.ntmps22
  go_wp2_with (go_at_call 26; refine d.mono ?_; rintro e w' ⟨rfl, rfl⟩)
  go_ret
  exact ⟨rfl, rfl⟩
theorem pBegin_none (w : World) (v : Value) (d : Calls Try.prog 26 #[v] w fun e w' => e = .returned (.bool true) ∧ w = w') :
    Calls Try.prog 9 #[v] w fun e w' => e = .returned (.int .i64 1) ∧ w = w' := by
  have t := fun f b => pTurn_none w v f b d
  clear d
  go_enter Try.func9, Try.ntmps9
  go_wp2_with (go_at_call 22; refine (t _ _).mono ?_; rintro e w' ⟨rfl, rfl⟩)
  go_ret
  exact ⟨rfl, rfl⟩
end Go.Proofs.Ytembhdlhhhdpiaa
