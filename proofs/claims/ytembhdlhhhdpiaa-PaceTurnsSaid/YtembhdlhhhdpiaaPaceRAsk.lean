/- The reference of package pace: Ask. -/
import Derived.Test.YtembhdlhhhdpiaaPaceRef
namespace Go.Proofs.Ytembhdlhhhdpiaa
open Go.RowKit SatPlain
theorem at3_on {c : PP} {n : Int} (ha : c.ac = true) : at3 c n = { at1 c n with de := clip (c.de + clip (n * c.ast)), si := 0 } := by
  unfold at3 deA; rw [ha, if_pos rfl]
set_option maxHeartbeats 8000000 in
theorem rAsk_any (w : World) (q k : Int) (c : PP) (n : Int) (g : c.Good) (hn' : n ≤ 9223372036854775807) :
    Calls Try.prog 30 #[RV q k c, .int .i64 n] w fun e w' => e = .returned (.tuple #[RV q k (askC c n), .int .u8 (askD c n), .int .i64 (askE n)]) ∧ Below w.heap.size w w' := by
  by_cases hn : n < 1
  · have e1 : askD c n = 0 := by unfold askD; rw [if_pos hn]
    have e2 : askE n = 2 := by unfold askE; rw [if_pos hn]
    have e3 : askC c n = c := by unfold askC; rw [if_pos hn]
    rw [e1, e2, e3]
    unfold RV
    obtain ⟨tr, ast, si, tot, de, cy, ac⟩ := c
    clear g e1 e2 e3
    go_enter Try.func30, Try.ntmps30
    go_wp2_with fail
    refine bodyPost_ret (by simp [results, Try.results30, go_sem]; rfl) rfl ?_
    exact ⟨rfl, two _ _ _⟩
  · have e2 : askE n = 0 := by unfold askE; rw [if_neg hn]
    rw [e2]
    clear e2
    have hn : 1 ≤ n := by omega
    have nI : I64 n := ⟨by omega, hn'⟩
    have a1 := fun w => rAdd_any c.si n ⟨by have := g.si0; omega, by have := g.si1; have := g.tr1; omega⟩ nI w
    have a2 := fun w => rAdd_any c.tot n g.tot.i64 nI w
    have b1 := fun w => rMul_any n c.ast nI ⟨by have := g.as0; omega, by have := g.as1; omega⟩ w
    have b2 := fun w => rAdd_any c.de (clip (n * c.ast)) g.de.i64 (I64.clip _) w
    have t0 := g.tr0
    have t1 := g.tr1
    clear g nI
    obtain ⟨tr, ast, si, tot, de, cy, ac⟩ := c
    simp only at a1 a2 b1 b2 t0 t1
    cases ac
    · by_cases hs : clip (si + n) < tr
      · obtain ⟨dd, cc⟩ := ask_lo (c := ⟨tr, ast, si, tot, de, cy, false⟩) hn hs
        rw [at2_off (c := ⟨tr, ast, si, tot, de, cy, false⟩) rfl] at cc
        rw [dd, cc]
        clear dd cc
        unfold RV at1
        go_enter Try.func30, Try.ntmps30
        go_wp2_with (first | (go_at_call_of 35 (Value.int IntKind.i64 si); refine (a1 _).mono ?_; rintro e w' ⟨rfl, rfl⟩) | (go_at_call_of 35 (Value.int IntKind.i64 tot); refine (a2 _).mono ?_; rintro e w' ⟨rfl, rfl⟩))
        (go_wp2_with fail; refine bodyPost_ret (by simp [results, Try.results30, go_sem]; rfl) rfl ?_; exact ⟨rfl, two _ _ _⟩)
      · obtain ⟨dd, cc⟩ := ask_off (c := ⟨tr, ast, si, tot, de, cy, false⟩) hn hs rfl
        rw [at3_off (c := ⟨tr, ast, si, tot, de, cy, false⟩) rfl] at cc
        rw [dd, cc]
        clear dd cc
        unfold RV at1
        go_enter Try.func30, Try.ntmps30
        go_wp2_with (first | (go_at_call_of 35 (Value.int IntKind.i64 si); refine (a1 _).mono ?_; rintro e w' ⟨rfl, rfl⟩) | (go_at_call_of 35 (Value.int IntKind.i64 tot); refine (a2 _).mono ?_; rintro e w' ⟨rfl, rfl⟩))
        (go_wp2_with fail; refine bodyPost_ret (by simp [results, Try.results30, go_sem]; rfl) rfl ?_; exact ⟨rfl, two _ _ _⟩)
    · by_cases hs : clip (si + n) < tr
      · obtain ⟨dd, cc⟩ := ask_lo (c := ⟨tr, ast, si, tot, de, cy, true⟩) hn hs
        rw [at2_on (c := ⟨tr, ast, si, tot, de, cy, true⟩) rfl] at cc
        rw [dd, cc]
        clear dd cc
        unfold RV at1
        go_enter Try.func30, Try.ntmps30
        go_wp2_with (first | (go_at_call_of 35 (Value.int IntKind.i64 si); refine (a1 _).mono ?_; rintro e w' ⟨rfl, rfl⟩) | (go_at_call_of 35 (Value.int IntKind.i64 tot); refine (a2 _).mono ?_; rintro e w' ⟨rfl, rfl⟩))
        go_region_with (first | (go_at_call 37; refine (b1 _).mono ?_; rintro e w' ⟨rfl, rfl⟩) | (go_at_call_of 35 (Value.int IntKind.i64 de); refine (b2 _).mono ?_; rintro e w' ⟨rfl, rfl⟩))
        all_goals (go_wp2_with fail; refine bodyPost_ret (by simp [results, Try.results30, go_sem]; rfl) rfl ?_; exact ⟨rfl, Bdrew (two _ _ _)⟩)
      · obtain ⟨dd, cc⟩ := ask_on (c := ⟨tr, ast, si, tot, de, cy, true⟩) hn hs rfl
        rw [at3_on (c := ⟨tr, ast, si, tot, de, cy, true⟩) rfl] at cc
        rw [dd, cc]
        clear dd cc
        unfold RV at1
        go_enter Try.func30, Try.ntmps30
        go_wp2_with (first | (go_at_call_of 35 (Value.int IntKind.i64 si); refine (a1 _).mono ?_; rintro e w' ⟨rfl, rfl⟩) | (go_at_call_of 35 (Value.int IntKind.i64 tot); refine (a2 _).mono ?_; rintro e w' ⟨rfl, rfl⟩))
        go_region_with (first | (go_at_call 37; refine (b1 _).mono ?_; rintro e w' ⟨rfl, rfl⟩) | (go_at_call_of 35 (Value.int IntKind.i64 de); refine (b2 _).mono ?_; rintro e w' ⟨rfl, rfl⟩))
        all_goals (go_wp2_with fail; refine bodyPost_ret (by simp [results, Try.results30, go_sem]; rfl) rfl ?_; exact ⟨rfl, Bdrew (two _ _ _)⟩)
end Go.Proofs.Ytembhdlhhhdpiaa
