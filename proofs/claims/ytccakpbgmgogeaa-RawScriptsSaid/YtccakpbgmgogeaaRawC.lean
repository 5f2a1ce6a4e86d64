/- The walk of the reference's Split. -/
import Derived.Test.YtccakpbgmgogeaaRawB
namespace Go.Proofs.Ytccakpbgmgogeaa
open Go.RowKit RawPlain

theorem wrap64_id {n : Int} (h0 : -9223372036854775808 ≤ n) (h1 : n ≤ 9223372036854775807) : wrap64 n = n := by unfold wrap64; omega
theorem drop_at (l : List UInt8) (k : Nat) (h : k < l.length) : l.drop k = l[k] :: l.drop (k + 1) := List.drop_eq_getElem_cons h

set_option maxHeartbeats 1000000 in
theorem rSplit_any (l : List UInt8) (hl : l.length ≤ 100000) (w : World) :
    Calls Try.prog 13 #[.string (bs l)] w fun e w' => ∃ v n, e = .returned (.tuple #[v, .bool (whole l)]) ∧ w'.ownsRow w.heap.size 9 1 v n ((pieces l).map SV) ∧ Below w.heap.size w w' := by
  obtain ⟨i0, hi, hz0, hz1, hz2⟩ := info_parts info9
  obtain ⟨P, hP⟩ : ∃ P, pieces l = P := ⟨_, rfl⟩
  obtain ⟨W, hW⟩ : ∃ P, whole l = P := ⟨_, rfl⟩
  rw [hP, hW]
  have HP := Lib.hid hP
  have HW := Lib.hid hW
  clear hP hW
  obtain ⟨s, hs⟩ : ∃ s, bs l = s := ⟨_, rfl⟩
  have hz : s.size = l.length := by rw [← hs]; rfl
  have HS := Lib.hid hs
  rw [hs]
  clear hs
  go_enter Try.func13, Try.ntmps13
  go_wp2_with fail
  go_loopw [4, 5] (fun v a wr => ∃ (X : List (List UInt8)) (k n : Nat), a = .int .i64 k ∧ k ≤ l.length ∧ P = X ++ pieces (l.drop k) ∧ W = whole (l.drop k) ∧ n ≤ k ∧ wr.ownsRow w.heap.size 9 1 v n (X.map SV) ∧ Below w.heap.size w wr) (fun _ a _ => l.length - (intOf a).toNat)
  case atStart => exact ⟨[], 0, 0, rfl, by omega, HP.out.symm, HW.out.symm, by omega, World.ownsRow_nil _ _ _ _, Below.refl _ _⟩
  case round =>
    obtain ⟨X, k, m, rfl, hk, hr, hw, hm, hown, hbel⟩ := hrel
    have HO := Lib.hid hown
    have HB := Lib.hid hbel
    have hsz := hbel.size
    clear hown hbel
    by_cases hlt : k < l.length
    · have hlt' : k < s.size := by omega
      rw [drop_at l k hlt, pieces_cons] at hr
      rw [drop_at l k hlt, whole_cons] at hw
      obtain ⟨N, hN⟩ : ∃ N, (l[k]).toNat = N := ⟨_, rfl⟩
      rw [hN] at hr hw
      have hN0 : N < 256 := by rw [← hN]; exact (l[k]).toNat_lt
      have hg : (((s[k]'hlt').toNat : Nat) : Int) = (N : Int) := by
        rw [← hN]; congr 2
        have := HS.out; subst this; rfl
      clear hN
      have HR := Lib.hid hr
      have HWW := Lib.hid hw
      clear hr hw
      have ht : (l.drop (k + 1)).length = l.length - (k + 1) := List.length_drop
      by_cases hend : l.length < k + 1 + N
      · have ex : s.extract (k + 1) l.length = bs (l.drop (k + 1)) := by rw [← HS.out, bs_extract, List.take_length]
        have hw2 : W = false := by rw [HWW.out, decide_eq_false (by clear hg; omega), Bool.false_and]
        have hw3 : ¬ N ≤ l.length - (k + 1) := by clear hg hw2; omega
        have t1 : (l.drop (k + 1)).take N = l.drop (k + 1) := List.take_of_length_le (by rw [ht]; exact Nat.le_of_lt (Nat.lt_of_not_le hw3))
        have t2 : (l.drop (k + 1)).drop N = [] := List.drop_of_length_le (by rw [ht]; exact Nat.le_of_lt (Nat.lt_of_not_le hw3))
        have hr2 : Hid (P = X ++ [l.drop (k + 1)]) := Lib.hid (by rw [HR.out, t1, t2, pieces_nil])
        clear t1 t2 hw3
        subst hw2
        clear HR HWW ht
        have EX := Lib.hid ex
        clear ex
        go_wp2_with (at_builtin; refine wpList_append_own _ rfl _ _ 40 rfl w.heap.size 9 i0 (.string ⟨#[]⟩) 1 16 Try.underlying40 hi hz0 hz1 hz2 rfl (by decide) _ _ _ rfl (HO.out.alloc _) ⟨wr.heap.size, 0, none⟩ 1 1 [.string (s.extract (k + 1) l.length)] rfl rfl ?c1 ?c2 ?c3 ?c4 ?c5 ?_)
        case c1 =>
          intro j u hj
          match j, hj with
          | 0, hj => simp at hj; subst hj; simp [Addr.add]
        case c2 => intro u hu; simp at hu; subst hu; rfl
        case c3 => clear hg; unfold maxLen; omega
        case c4 => clear hg; omega
        case c5 => clear hg; simp; omega
        intro v' w1 hown' hgrow _
        have hb1 := (HB.out.alloc HB.out.size _).grown hgrow (by clear hg; simp; omega) (fun j hj => by have := (HO.out.lt j hj).1; clear hg; omega)
        have HO' : Hid (w1.ownsRow w.heap.size 9 1 v' (m + 1) (P.map SV)) := Lib.hid (by rw [hr2.out, List.map_append]; show w1.ownsRow w.heap.size 9 1 v' (m + 1) (X.map SV ++ [.string (bs (l.drop (k + 1)))]); rw [← EX.out]; exact hown')
        have HB' := Lib.hid hb1
        clear hown' hgrow hb1 HO HB
        go_wp2_with fail
        go_ret2
        exact ⟨_, m + 1, rfl, HO'.out, HB'.out⟩
      · have ex : s.extract (k + 1) (k + 1 + N) = bs ((l.drop (k + 1)).take N) := by rw [← HS.out, bs_extract, List.drop_take, Nat.add_sub_cancel_left]
        have EX := Lib.hid ex
        have hr2 : Hid (P = X ++ [(l.drop (k + 1)).take N] ++ pieces (l.drop (k + 1 + N))) := Lib.hid (by rw [HR.out, List.drop_drop]; simp)
        have hw2 : Hid (W = whole (l.drop (k + 1 + N))) := Lib.hid (by rw [HWW.out, decide_eq_true (by clear hg; omega), Bool.true_and, List.drop_drop])
        clear ex HR HWW ht
        go_wp2_with (at_builtin; refine wpList_append_own _ rfl _ _ 40 rfl w.heap.size 9 i0 (.string ⟨#[]⟩) 1 16 Try.underlying40 hi hz0 hz1 hz2 rfl (by decide) _ _ _ rfl (HO.out.alloc _) ⟨wr.heap.size, 0, none⟩ 1 1 [.string (s.extract (k + 1) (k + 1 + N))] rfl rfl ?c1 ?c2 ?c3 ?c4 ?c5 ?_)
        case c1 =>
          intro j u hj
          match j, hj with
          | 0, hj => simp at hj; subst hj; simp [Addr.add]
        case c2 => intro u hu; simp at hu; subst hu; rfl
        case c3 => clear hg; unfold maxLen; omega
        case c4 => clear hg; omega
        case c5 => clear hg; simp; omega
        intro v' w1 hown' hgrow _
        have hb1 := (HB.out.alloc HB.out.size _).grown hgrow (by clear hg; simp; omega) (fun j hj => by have := (HO.out.lt j hj).1; clear hg; omega)
        have HO' : Hid (w1.ownsRow w.heap.size 9 1 v' (m + 1) ((X ++ [(l.drop (k + 1)).take N]).map SV)) := Lib.hid (by rw [List.map_append]; show w1.ownsRow w.heap.size 9 1 v' (m + 1) (X.map SV ++ [.string (bs ((l.drop (k + 1)).take N))]); rw [← EX.out]; exact hown')
        have HB' := Lib.hid hb1
        clear hown' hgrow hb1 HO HB
        go_wp2_with fail
        go_roundw
        case rel => exact ⟨X ++ [(l.drop (k + 1)).take N], k + 1 + N, m + 1, by go_num, by omega, hr2.out, hw2.out, by omega, HO'.out, HB'.out⟩
        case measure => simp only [intOf]; omega
    · obtain rfl : k = l.length := by omega
      rw [List.drop_length] at hr hw
      rw [pieces_nil, List.append_nil] at hr
      rw [whole_nil] at hw
      subst hr hw
      go_wp2_with fail
      go_ret2
      exact ⟨_, m, rfl, HO.out, HB.out⟩
end Go.Proofs.Ytccakpbgmgogeaa
