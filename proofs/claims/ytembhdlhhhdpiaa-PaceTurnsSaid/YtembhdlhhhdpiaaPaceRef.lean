/- The reference of package pace. -/
import Derived.Test.YtembhdlhhhdpiaaPacePay
import Derived.Test.YtembhdlhhhdpiaaPaceAsk
namespace Go.Proofs.Ytembhdlhhhdpiaa
open Go.RowKit SatPlain
/-- the reference's pacer of a tenant of quota q and k caps -/
def RV (q k : Int) (c : PP) : Value := .agg #[.int .i64 q, .int .i64 c.tr, .int .i64 k, .int .i64 c.ast, .bool c.ac, .int .i64 c.si, .int .i64 c.tot, .int .i64 c.de, .int .i64 c.cy]

theorem Bdrew {B : Nat} {w w' : World} (h : Below B w w') : Below B w w'.drew := ⟨h.os, h.tape, h.output, h.size, h.block⟩
theorem two (w : World) (o o' : Obj) : Below w.heap.size w ((w.alloc o).alloc o') := ((Below.refl _ _).alloc (Nat.le_refl _) _).alloc (by simp) _
theorem rNew_in (w : World) (q t k a : Int) (h : Fit t a) :
    Calls Try.prog 16 #[TV q t k a] w fun e w' => e = .returned (.tuple #[RV q k (new0 t a), .int .i64 0]) ∧ Below w.heap.size w w' := by
  obtain ⟨h0, h1, h2, h3⟩ := h
  unfold TV
  go_enter Try.func16, Try.ntmps16
  go_wp2
  refine bodyPost_ret (by simp [results, Try.results16, go_sem]; rfl) rfl ?_
  exact ⟨rfl, ((Below.refl _ _).alloc (Nat.le_refl _) _).alloc (by simp) _⟩
theorem rNew_out (w : World) (q t k a : Int) (h : ¬ Fit t a) :
    Calls Try.prog 16 #[TV q t k a] w fun e w' => e = .returned (.tuple #[RV 0 0 (new0 0 0), .int .i64 2]) ∧ Below w.heap.size w w' := by
  unfold Fit at h
  unfold TV
  have key : t < 1 ∨ (1 ≤ t ∧ 1048576 < t) ∨ (1 ≤ t ∧ t ≤ 1048576 ∧ a < 0) ∨ (1 ≤ t ∧ t ≤ 1048576 ∧ 0 ≤ a ∧ 1024 < a) := by omega
  clear h
  rcases key with h | ⟨h0, h1⟩ | ⟨h0, h1, h2⟩ | ⟨h0, h1, h2, h3⟩
  all_goals
    go_enter Try.func16, Try.ntmps16
    go_wp2
    refine bodyPost_ret (by simp [results, Try.results16, go_sem]; rfl) rfl ?_
    exact ⟨rfl, ((Below.refl _ _).alloc (Nat.le_refl _) _).alloc (by simp) _⟩

theorem rTurn_any (w : World) (q k : Int) (c : PP) (a : Bool) (g : c.Good) :
    Calls Try.prog 28 #[RV q k c, .bool a] w fun e w' => e = .returned (.tuple #[RV q k (tnC c a), .int .i64 (tnE c a)]) ∧ Below w.heap.size w w' := by
  have hcy := g.cy.i64
  obtain ⟨tr, ast, si, tot, de, cy, ac⟩ := c
  have s := fun w => rAdd_any cy 1 hcy ⟨by decide, by decide⟩ w
  clear hcy g
  unfold RV
  cases ac <;> cases a
  · go_enter Try.func28, Try.ntmps28
    go_wp2_with fail
    refine bodyPost_ret (by simp [results, Try.results28, go_sem]; rfl) rfl ?_
    exact ⟨rfl, ((Below.refl _ _).alloc (Nat.le_refl _) _).alloc (by simp) _⟩
  · go_enter Try.func28, Try.ntmps28
    go_wp2_with fail
    refine bodyPost_ret (by simp [results, Try.results28, go_sem]; rfl) rfl ?_
    exact ⟨rfl, ((Below.refl _ _).alloc (Nat.le_refl _) _).alloc (by simp) _⟩
  · go_enter Try.func28, Try.ntmps28
    go_wp2_with (go_at_call 35; refine (s _).mono ?_; rintro e w' ⟨rfl, rfl⟩)
    refine bodyPost_ret (by simp [results, Try.results28, go_sem]; rfl) rfl ?_
    exact ⟨rfl, ((Below.refl _ _).alloc (Nat.le_refl _) _).alloc (by simp) _⟩
  · go_enter Try.func28, Try.ntmps28
    go_wp2_with fail
    refine bodyPost_ret (by simp [results, Try.results28, go_sem]; rfl) rfl ?_
    exact ⟨rfl, ((Below.refl _ _).alloc (Nat.le_refl _) _).alloc (by simp) _⟩

theorem clip_le0 {n d : Int} (h : 0 ≤ d ∧ d ≤ 4611686018427387904) (hn : n ≤ 0) : clip (d - (if n < 0 then 0 else n)) = d := by
  split
  · rw [clip_of (by omega) (by omega)]; omega
  · rw [clip_of (by omega) (by omega)]; omega

theorem rPay_any (w : World) (q k : Int) (c : PP) (n : Int) (g : c.Good) (hn : I64 n) :
    Calls Try.prog 29 #[RV q k c, .int .i64 n] w fun e w' => e = .returned (.tuple #[RV q k (payC c n), .int .i64 (payR c n)]) ∧ Below w.heap.size w w' := by
  have hde := g.de
  have hR : ∀ S, (payC c n).de = S → payC c n = { c with de := S } := by rintro _ rfl; rfl
  have hQ : ∀ S, (payC c n).de = S → payR c n = if S < 2147483647 then S else 2147483647 := by rintro _ rfl; rfl
  by_cases hp : 0 < n
  · have hS : (payC c n).de = clip (c.de - n) := by unfold payC; simp only; rw [if_neg (by omega)]
    have s := fun w => rSub_any c.de n hde.i64 hn w
    have hM := Mst.clip (c.de - n)
    rw [hR _ hS, hQ _ hS]
    clear hS hR hQ g hde
    generalize clip (c.de - n) = S at *
    obtain ⟨m0, m1⟩ := hM
    obtain ⟨tr, ast, si, tot, de, cy, ac⟩ := c
    obtain ⟨n0, n1⟩ := hn
    unfold RV
    have key : S < 2147483647 ∨ S = 2147483647 ∨ 2147483647 < S := by omega
    rcases key with hs | hs | hs
    · rw [if_pos hs]
      go_enter Try.func29, Try.ntmps29
      go_wp2_with (go_at_call 36; refine (s _).mono ?_; rintro e w' ⟨rfl, rfl⟩)
      go_region
      go_wp2_with fail
      refine bodyPost_ret (by simp [results, Try.results29, go_sem]; rfl) rfl ?_
      exact ⟨rfl, Bdrew (two _ _ _)⟩
    · subst hs
      rw [if_neg (by decide)]
      go_enter Try.func29, Try.ntmps29
      go_wp2_with (go_at_call 36; refine (s _).mono ?_; rintro e w' ⟨rfl, rfl⟩)
      go_region
      go_wp2_with fail
      refine bodyPost_ret (by simp [results, Try.results29, go_sem]; rfl) rfl ?_
      exact ⟨rfl, Bdrew (two _ _ _)⟩
    · rw [if_neg (by omega)]
      go_enter Try.func29, Try.ntmps29
      go_wp2_with (go_at_call 36; refine (s _).mono ?_; rintro e w' ⟨rfl, rfl⟩)
      refine bodyPost_ret (by simp [results, Try.results29, go_sem]; rfl) rfl ?_
      exact ⟨rfl, two _ _ _⟩
  · have hS : (payC c n).de = c.de := clip_le0 hde (by omega)
    rw [hR _ hS, hQ _ hS]
    clear hS hR hQ g
    obtain ⟨m0, m1⟩ := hde
    obtain ⟨tr, ast, si, tot, de, cy, ac⟩ := c
    obtain ⟨n0, n1⟩ := hn
    unfold RV
    simp only at m0 m1 ⊢
    have key : de < 2147483647 ∨ de = 2147483647 ∨ 2147483647 < de := by omega
    rcases key with hs | hs | hs
    · rw [if_pos hs]
      go_enter Try.func29, Try.ntmps29
      go_wp2_with fail
      go_region
      go_wp2_with fail
      refine bodyPost_ret (by simp [results, Try.results29, go_sem]; rfl) rfl ?_
      exact ⟨rfl, Bdrew (two _ _ _)⟩
    · subst hs
      rw [if_neg (by decide)]
      go_enter Try.func29, Try.ntmps29
      go_wp2_with fail
      go_region
      go_wp2_with fail
      refine bodyPost_ret (by simp [results, Try.results29, go_sem]; rfl) rfl ?_
      exact ⟨rfl, Bdrew (two _ _ _)⟩
    · rw [if_neg (by omega)]
      go_enter Try.func29, Try.ntmps29
      go_wp2_with fail
      refine bodyPost_ret (by simp [results, Try.results29, go_sem]; rfl) rfl ?_
      exact ⟨rfl, two _ _ _⟩
end Go.Proofs.Ytembhdlhhhdpiaa
