/- The walk of the statement on sums of whole numbers. -/
import Derived.Test.YthhlgdjpopdboaaRealOpen
import Derived.OwnWalk
import Derived.Laws.AppendOwn
namespace Go.Proofs.Ythhlgdjpopdboaa
open Go.RowKit FloatPlain Ieee

theorem info22 : (Try.prog.info? 22).map (fun i => (i.zero, i.size, i.bytes)) = some (some (.int .u64 0), 1, 8) := by kernel_rfl

/-- small whole numbers are got back -/
theorem ofB_small {n : Int} (h : n.natAbs < 2 ^ 53) : ofB n = true := by
  have h64 : n.natAbs < 2 ^ 64 := by omega
  have hr := rung_ofW h64
  have hs := sgn_ofW h64
  have hv := V_wholeR_exact h
  have hp := P_pos
  have hT : T (ofW n) = n.natAbs := by unfold T; rw [hr, hv, Nat.mul_div_cancel _ hp]
  have h0 : V (rung (ofW n)) % P = 0 := by rw [hr, hv]; exact Nat.mul_mod_left _ _
  have hi : tInt (ofW n) = n := by
    unfold tInt; rw [hT, hs]
    by_cases h : n < 0
    · simp only [h, decide_true, if_true]; omega
    · simp only [h, decide_false]; simp only [Bool.false_eq_true, if_false]; omega
  have hl := wholeR_le h64
  unfold ofB wholeB
  rw [hi, hr, ← hr, h0, hr]
  simp [hl]
  omega
/-- what is left of each number -/
def gOf (f : Nat → Int) (i : Nat) : Int := (f i).tmod 1099511627776
def Ig (f : Nat → Int) (k : Nat) : List Int := (List.range k).map (gOf f)
theorem Ig_succ (f : Nat → Int) (k : Nat) : Ig f (k + 1) = Ig f k ++ [gOf f k] := by unfold Ig; rw [List.range_succ, List.map_append]; rfl
theorem gOf_bd (f : Nat → Int) (i : Nat) : -1099511627776 < gOf f i ∧ gOf f i < 1099511627776 := by
  unfold gOf
  constructor
  · have := Int.lt_tmod_of_pos (f i) (b := 1099511627776) (by decide); omega
  · exact Int.tmod_lt_of_pos _ (by decide)
theorem Ig_len (f : Nat → Int) (k : Nat) : (Ig f k).length = k := by simp [Ig]
theorem Ig_sum (f : Nat → Int) (k : Nat) (h : k ≤ 100) : acc ((Ig f k).map ofW) = some (ofW (Ig f k).sum) ∧ (Ig f k).sum.natAbs < 2 ^ 47 := by
  refine acc_whole _ (by rw [Ig_len]; exact h) fun x hx => ?_
  unfold Ig at hx
  rw [List.mem_map] at hx
  obtain ⟨i, _, rfl⟩ := hx
  have := gOf_bd f i
  omega
theorem Ig_Lf (f : Nat → Int) (k : Nat) : Lf (fun i => ofW (gOf f i)) k = (Ig f k).map ofW := by unfold Lf Ig; rw [List.map_map]; rfl
theorem Ig_sum_succ (f : Nat → Int) (k : Nat) : (Ig f (k + 1)).sum = (Ig f k).sum + gOf f k := by rw [Ig_succ, List.sum_append]; simp
theorem gOf_lt (f : Nat → Int) (i : Nat) : ofW (gOf f i) < 2 ^ 64 := ofW_lt (by have := gOf_bd f i; omega)
/-- a row of the call's own as words -/
theorem wds_own {w : World} {base n : Nat} {v : Value} {f : Nat → Int} (h : w.ownsRow base 22 1 v n ((Ig f n).map fun x => Value.int .u64 (ofW x : Nat))) (hn : n ≤ 100) :
    ∃ A cap, v = .slice A n cap ∧ n ≤ cap ∧ Wds w A n (fun i => ofW (gOf f i)) := by
  obtain ⟨hl, ⟨rfl, rfl⟩ | ⟨g, cap, cur, rfl, hb, hg, hc, hm, hs, ht⟩⟩ := h
  · exact ⟨none, 0, rfl, Nat.le_refl _, gOf_lt f, by omega, fun h => absurd h (by omega)⟩
  · refine ⟨_, cap, rfl, hc, gOf_lt f, by omega, fun _ => ⟨g, 0, rfl, ?_, fun i hi => ?_⟩⟩
    · rcases Nat.lt_or_ge g w.heap.size with k | k
      · exact k
      · rw [Array.getElem?_eq_none k] at hg; cases hg
    · rw [Nat.zero_add, cell_of_row w g i cur 22 (0, 0) hg]
      have h1 : (cur.toList.take (n * 1))[i]? = some (.int .u64 (ofW (gOf f i) : Nat)) := by
        rw [ht, List.getElem?_map]
        unfold Ig
        rw [List.getElem?_map, List.getElem?_range hi]; rfl
      rw [List.getElem?_take_of_lt (by omega)] at h1
      rw [← Array.getElem?_toList]; exact h1

set_option maxHeartbeats 2000000 in
theorem exact_walk (w : World) (A : Option Addr) (len cap : Nat) (f : Nat → Int) (h : Nums w A len f) : Calls Try.prog 9 #[.slice A len cap] w fun e w' => e = .returned (.bool true) ∧ Below w.heap.size w w' := by
  have aw := fun w => awake_any w
  obtain ⟨hf, hl, hc⟩ := h
  by_cases hg : 100 < len
  · clear hf hc
    go_enter Try.func9, Try.ntmps9
    go_wp2_with fail
    refine (aw _).mono ?_
    rintro e w4 ⟨rfl, b4⟩
    have B4 := Lib.hid b4
    clear b4
    go_wp2_with fail
    go_ret
    exact ⟨rfl, B4.out⟩
  · obtain ⟨i0, hi, hz0, hz1, hz2⟩ := info_parts info22
    have HF := Lib.hid hf
    have HC := Lib.hid hc
    clear hf hc
    go_enter Try.func9, Try.ntmps9
    go_wp2_with fail
    go_loopw [3, 4, 5] (fun n v i wr => ∃ (k : Nat) (S : Int), k ≤ len ∧ i = .int .i64 k ∧ n = .int .i64 S ∧ S = (Ig f k).sum ∧ wr.ownsRow w.heap.size 22 1 v k ((Ig f k).map fun x => Value.int .u64 (ofW x : Nat)) ∧ Below w.heap.size w wr) (fun _ _ i _ => len - (intOf i).toNat)
    case atStart => exact ⟨0, 0, by omega, rfl, rfl, rfl, World.ownsRow_nil _ _ _ _, Below.refl _ _⟩
    case round =>
      rename_i nv vv iv
      obtain ⟨k, S, hk, rfl, rfl, hS, hown, hbel⟩ := hrel
      have sb := (Ig_sum f k (by omega)).2
      rw [← hS] at sb
      have s0 : -140737488355328 < S := by omega
      have s1 : S < 140737488355328 := by omega
      clear sb
      by_cases hlt : k < len
      · obtain ⟨b, off, rfl, hbb, hcell⟩ := HC.out (by omega)
        have ck := (hbel.cell (p := ⟨b, off + k, none⟩) hbb).trans (hcell k hlt)
        clear hcell
        have hgk : (f k).tmod 1099511627776 = gOf f k := rfl
        have gb := gOf_bd f k
        obtain ⟨g0, g1⟩ := gb
        have po := fun w => pof_any (gOf f k) (by omega) (by omega) w
        rw [ofB_small (n := gOf f k) (by omega)] at po
        have nS : S + gOf f k = (Ig f (k + 1)).sum := by rw [Ig_sum_succ, hS]
        have nX : ((Ig f (k + 1)).map fun x => Value.int .u64 (ofW x : Nat)) = ((Ig f k).map fun x => Value.int .u64 (ofW x : Nat)) ++ [.int .u64 (ofW (gOf f k) : Nat)] := by rw [Ig_succ, List.map_append]; rfl
        have NS := Lib.hid nS
        have NX := Lib.hid nX
        have HO := Lib.hid hown
        have HB := Lib.hid hbel
        clear nS nX hS hown hbel
        generalize hX : (Ig f k).map (fun x => Value.int .u64 (ofW x : Nat)) = X at *
        have HX := Lib.hid hX
        clear hX
        generalize gOf f k = gk at *
        generalize ofW gk = wk at *
        go_wp2_with (first | (go_at_call 24; refine (po _).mono ?_; rintro e w' ⟨rfl, rfl⟩) | (at_builtin; refine wpList_append_own _ rfl _ _ 37 rfl w.heap.size 22 i0 (.int .u64 0) 1 8 Try.underlying37 hi hz0 hz1 hz2 rfl (by decide) _ _ _ rfl (HO.out.alloc _) ⟨wr.heap.size, 0, none⟩ 1 1 [.int .u64 wk] rfl rfl ?c1 ?c2 ?c3 ?c4 ?c5 ?_))
        case c1 =>
          intro j u hj
          match j, hj with
          | 0, hj => simp at hj; subst hj; simp [Addr.add]
        case c2 => intro u hu; simp at hu; subst hu; rfl
        case c3 => unfold maxLen; omega
        case c4 => omega
        case c5 => have := HB.out.size; simp; omega
        intro v' w1 hown' hgrow _
        have hb1 := (HB.out.alloc HB.out.size _).grown hgrow (by have := HB.out.size; simp; omega) (fun j hj => by have := (HO.out.lt j hj).1; omega)
        rw [← NX.out] at hown'
        have HO' := Lib.hid hown'
        have HB' := Lib.hid hb1
        clear hown' hgrow hb1 HO HB
        go_wp2_with fail
        go_roundw
        case rel => exact ⟨k + 1, _, by omega, by go_num, rfl, NS.out, HO'.out, HB'.out⟩
        case measure => simp [intOf]; omega
      · obtain rfl : k = len := by omega
        obtain ⟨A', cap', rfl, hcap', W⟩ := wds_own hown (by omega)
        have ps := psum_any wr A' k cap' _ W hcap'
        have ea := (Ig_sum f k (by omega)).1
        have es : sumW (Lf (fun i => ofW (gOf f i)) k) = ofW S := by
          unfold sumW; rw [Ig_Lf, ea, hS]
        rw [es] at ps
        have po := fun w => pof_any S (by omega) (by omega) w
        rw [ofB_small (n := S) (by omega)] at po
        have HB := Lib.hid hbel
        clear hS hown hbel W ea es hcap'
        generalize ofW S = wS at *
        go_wp2_with (go_at_call 24; refine (po _).mono ?_; rintro e w' ⟨rfl, rfl⟩)
        refine ps.mono ?_
        rintro e w5 ⟨rfl, n5, rfl⟩
        go_wp2_with fail
        refine (aw _).mono ?_
        rintro e w6 ⟨rfl, b6⟩
        have B6 := Lib.hid (HB.out.trans ((unN b6).mono HB.out.size))
        clear b6
        go_wp2_with fail
        go_ret
        exact ⟨rfl, B6.out⟩
end Go.Proofs.Ythhlgdjpopdboaa
