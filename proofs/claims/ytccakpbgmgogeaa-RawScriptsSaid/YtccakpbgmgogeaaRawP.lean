/- The walk of RawScripts. -/
import Derived.Test.YtccakpbgmgogeaaRawN
namespace Go.Proofs.Ytccakpbgmgogeaa
open Go.RowKit RawPlain

theorem great_len {f : Nat → List UInt8} {len : Nat} (h : greatB f len = false) : len ≤ 100 := by
  unfold greatB at h
  rw [Bool.or_eq_false_iff] at h
  have := of_decide_eq_false h.1
  omega
theorem split_strs (l : List UInt8) (hl : l.length ≤ 100000) (w : World) :
    Calls Try.prog 17 #[.string (bs l)] w fun e w' => ∃ A cap, e = .returned (.slice A (pieces l).length cap) ∧ Strs w' A (pieces l).length (fun i => (pieces l).getD i []) ∧ Below w.heap.size w w' := by
  refine (split_any l hl w).mono ?_
  rintro e w' ⟨v, n, rfl, ho, hb⟩
  have hn : (pieces l).length = n := by have := ho.1; simpa using this
  have hp := pieces_size l
  obtain ⟨A, cap, rfl, _, h2, hs⟩ := strs_own ho (fun p hp => by have := pieces_fit l p hp; omega) (by omega)
  exact ⟨A, cap, by rw [h2], by rw [← h2]; exact hs, hb⟩
theorem rsplit_strs (l : List UInt8) (hl : l.length ≤ 100000) (w : World) :
    Calls Try.prog 13 #[.string (bs l)] w fun e w' => ∃ A cap, e = .returned (.tuple #[.slice A (pieces l).length cap, .bool (whole l)]) ∧ Strs w' A (pieces l).length (fun i => (pieces l).getD i []) ∧ Below w.heap.size w w' := by
  refine (rSplit_any l hl w).mono ?_
  rintro e w' ⟨v, n, rfl, ho, hb⟩
  have hn : (pieces l).length = n := by have := ho.1; simpa using this
  have hp := pieces_size l
  obtain ⟨A, cap, rfl, _, h2, hs⟩ := strs_own ho (fun p hp => by have := pieces_fit l p hp; omega) (by omega)
  exact ⟨A, cap, by rw [h2], by rw [← h2]; exact hs, hb⟩
theorem same_yes (w : World) (A B : Option Addr) (n c d : Nat) (f g : Nat → List UInt8) (h : Strs w A n f) (h' : Strs w B n g) (hfg : ∀ i, i < n → f i = g i) :
    Calls Try.prog 16 #[.slice A n c, .slice B n d] w fun e w' => e = .returned (.bool true) ∧ ∃ k, w' = w.drewN k := by
  have c := same_any w A B n n c d f g h h'
  rw [decide_eq_true ⟨rfl, hfg⟩] at c
  exact c
theorem Strs.drew {w : World} {A : Option Addr} {n : Nat} {f : Nat → List UInt8} (h : Strs w A n f) (k : Nat) : Strs (w.drewN k) A n f := h.below (below_drewN w k) (Nat.le_refl _)
set_option maxHeartbeats 4000000 in
theorem scripts_walk (s : List UInt8) (hs : s.length ≤ 9223372036854775807) (W : World) (A : Option Addr) (len cap : Nat) (f : Nat → List UInt8) (h : Strs W A len f) :
    Calls Try.prog 5 #[.string (bs s), .slice A len cap] W (LawPost W) := by
  have hsz : (bs s).size = s.length := rfl
  have HS := Lib.hid h
  clear h
  by_cases hl : 3000 < s.length
  · go_enter Try.func5, Try.ntmps5
    go_wp2_with fail
    refine (awake_any _).mono ?_
    rintro e w1 ⟨rfl, b1⟩
    have B1 := Lib.hid b1
    clear b1
    go_wp2_with fail
    go_ret
    exact ⟨rfl, B1.out⟩
  · have cg := great_any W A len cap f HS.out
    cases hg : greatB f len with
    | true =>
      rw [hg] at cg
      clear hg
      go_enter Try.func5, Try.ntmps5
      go_wp2_with fail
      refine cg.mono ?_
      rintro e w1 ⟨rfl, k1, rfl⟩
      go_wp2_with fail
      refine (awake_any _).mono ?_
      rintro e w2 ⟨rfl, b2⟩
      have B2 := Lib.hid ((below_drewN W k1).trans b2)
      clear b2
      go_wp2_with fail
      go_ret
      exact ⟨rfl, B2.out⟩
    | false =>
      rw [hg] at cg
      have hlen := great_len hg
      clear hg
      have cr := fun w => rsplit_strs s (by omega) w
      have cs := fun w => split_strs s (by omega) w
      have cw := fun w => whole_any s (by omega) w
      obtain ⟨n, hn⟩ : ∃ n, (pieces s).length = n := ⟨_, rfl⟩
      obtain ⟨P, hP⟩ : ∃ P, (fun i => (pieces s).getD i []) = P := ⟨_, rfl⟩
      obtain ⟨Wh, hWh⟩ : ∃ x, whole s = x := ⟨_, rfl⟩
      rw [hn, hP, hWh] at cr
      rw [hn, hP] at cs
      rw [hWh] at cw
      clear hn hP hWh
      have cj := fun w h => join_any w A len cap f h (by omega)
      have cq := fun w h => rjoin_any w A len cap f h (by omega)
      unfold JoinPost at cj
      unfold RJoinPost at cq
      generalize bs (joinS f len) = sj at *
      generalize joinN f len = nj at *
      go_enter Try.func5, Try.ntmps5
      go_wp2_with fail
      refine cg.mono ?_
      rintro e w0 ⟨rfl, k0, rfl⟩
      go_wp2_with fail
      refine (cr _).mono ?_
      rintro e w1 ⟨A1, c1, rfl, h1, b1⟩
      have B1 := Lib.hid ((below_drewN (B := W.heap.size) W k0).trans b1)
      have H1 := Lib.hid h1
      clear b1 h1 cg
      go_wp2_with fail
      refine (cj _ (HS.out.below B1.out (Nat.le_refl _))).mono ?_
      rintro e w2 ⟨rfl, b2⟩
      have H2 := Lib.hid (H1.out.below b2 (Nat.le_refl _))
      have B2 := Lib.hid (bel2 B1.out b2 B1.out.size)
      clear b2 H1 B1
      go_wp2_with fail
      refine (cq _ (HS.out.below B2.out (Nat.le_refl _))).mono ?_
      rintro e w3 ⟨rfl, b2⟩
      have H3 := Lib.hid (H2.out.below b2 (Nat.le_refl _))
      have B3 := Lib.hid (bel2 B2.out b2 B2.out.size)
      clear b2 H2 B2
      go_wp2_with fail
      refine (cs _).mono ?_
      rintro e w4 ⟨A2, c2, rfl, h4, b2⟩
      have H4 := Lib.hid (H3.out.below b2 (Nat.le_refl _))
      have B4 := Lib.hid (bel2 B3.out b2 B3.out.size)
      have I4 := Lib.hid h4
      clear b2 H3 B3 h4
      go_wp2_with fail
      refine (same_yes _ _ _ n c2 c1 P P I4.out H4.out (fun _ _ => rfl)).mono ?_
      rintro e w5 ⟨rfl, k5, rfl⟩
      go_wp2_with fail
      refine (cw _).mono ?_
      rintro e w6 ⟨rfl, k6, rfl⟩
      go_wp2_with fail
      refine (awake_any _).mono ?_
      rintro e w7 ⟨rfl, b7⟩
      have B7 := Lib.hid (bel2 (B4.out.trans (below_drewN w4 _)) b7 B4.out.size)
      clear b7
      go_wp2_with fail
      go_ret
      exact ⟨rfl, B7.out⟩
end Go.Proofs.Ytccakpbgmgogeaa
