/- The walk of TintFlips. -/
import Derived.Test.YtcckppijabajdaaTintA
namespace Go.Proofs.Ytcckppijabajdaa
open Go.RowKit

/-- the acts that came in: each is two cells -/
def Acts (w : World) (A : Option Addr) (len : Nat) (what slot : Nat → Int) : Prop :=
  (∀ i, 0 ≤ what i ∧ what i ≤ 255) ∧ (∀ i, -9223372036854775808 ≤ slot i ∧ slot i ≤ 9223372036854775807) ∧ len ≤ 9223372036854775807 ∧
  (0 < len → ∃ b off, A = some ⟨b, off, none⟩ ∧ b < w.heap.size ∧
    ∀ i, i < len → w.cell? ⟨b, off + i * 2, none⟩ = some (.int .u8 (what i)) ∧ w.cell? ⟨b, off + i * 2 + 1, none⟩ = some (.int .i64 (slot i)))

theorem cnt_white (n : Nat) : cnt (List.replicate n 0) 0 = n := by unfold cnt; rw [List.countP_replicate]; simp
/-- the first k grey -/
def greys (n k : Nat) : List Int := List.replicate k 1 ++ List.replicate (n - k) 0

theorem greys_len {n k : Nat} (h : k ≤ n) : (greys n k).length = n := by unfold greys; simp; omega
theorem greys_zero (n : Nat) : greys n 0 = List.replicate n 0 := by unfold greys; simp
theorem greys_all (n : Nat) : cnt (greys n n) 1 = n := by unfold greys cnt; rw [Nat.sub_self, List.replicate_zero, List.append_nil, List.countP_replicate]; simp
theorem greys_split {n k : Nat} (h : k < n) : greys n k = List.replicate k 1 ++ 0 :: List.replicate (n - (k + 1)) 0 := by
  unfold greys; rw [show n - k = (n - (k + 1)) + 1 from by omega, List.replicate_succ]
theorem greys_next {n k : Nat} : greys n (k + 1) = List.replicate k 1 ++ 1 :: List.replicate (n - (k + 1)) 0 := by
  unfold greys; rw [List.replicate_succ', List.append_assoc]; rfl
theorem getD_mid (a : List Int) (x : Int) (b : List Int) : (a ++ x :: b).getD a.length 0 = x := by simp
theorem set_mid (a : List Int) (x y : Int) (b : List Int) : (a ++ x :: b).set a.length y = a ++ y :: b := by simp
theorem greys_shB {n k : Nat} (h : k < n) : shB (greys n k) k = true := by
  have hl := greys_len (n := n) (k := k) (by omega)
  have hg : (greys n k).getD k 0 = 0 := by
    rw [greys_split h]
    have := getD_mid (List.replicate k 1) 0 (List.replicate (n - (k + 1)) 0)
    rwa [List.length_replicate] at this
  unfold shB
  rw [hl, Int.toNat_natCast, hg]; simp; omega
theorem greys_shC {n k : Nat} (h : k < n) : shC (greys n k) k = greys n (k + 1) := by
  unfold shC
  rw [if_pos (greys_shB h), Int.toNat_natCast, greys_split h, greys_next]
  have := set_mid (List.replicate k 1) 0 1 (List.replicate (n - (k + 1)) 0)
  rwa [List.length_replicate] at this
theorem greys_ofC {n k : Nat} (h : k < n) : ofC (greys n (k + 1)) k = 1 := by
  have hl := greys_len (n := n) (k := k + 1) (by omega)
  unfold ofC
  rw [hl, if_pos (by omega), Int.toNat_natCast, greys_next]
  have := getD_mid (List.replicate k 1) 1 (List.replicate (n - (k + 1)) 0)
  rwa [List.length_replicate] at this
theorem ofE_in {n k : Nat} (h : k < n) : ofE n k = 0 := by unfold ofE; rw [if_pos (by omega)]
theorem shC_len (cs : List Int) (s : Int) : (shC cs s).length = cs.length := by unfold shC; split <;> simp
theorem blC_len (cs : List Int) (s : Int) : (blC cs s).length = cs.length := by unfold blC; split <;> simp

set_option maxHeartbeats 800000 in
theorem flips_walk (w : World) (many flips : Int) (A : Option Addr) (len cap : Nat) (what slot : Nat → Int) (hm : 0 ≤ many ∧ many ≤ 65535) (hf : 0 ≤ flips ∧ flips ≤ 65535) (hA : Acts w A len what slot) :
    Calls Try.prog 6 #[.int .u16 many, .int .u16 flips, .slice A len cap] w fun e w' => e = .returned (.bool true) ∧ Below w.heap.size w w' := by
  obtain ⟨hm0, hm1⟩ := hm
  obtain ⟨hf0, hf1⟩ := hf
  obtain ⟨n, hn⟩ : ∃ n : Nat, many % 301 = n := ⟨(many % 301).toNat, by omega⟩
  obtain ⟨F, hF⟩ : ∃ F : Nat, flips % 300 = F := ⟨(flips % 300).toNat, by omega⟩
  have hn300 : n ≤ 300 := by omega
  have hF300 : F < 300 := by omega
  have hN := tNew_in w n 1 (by omega) (by decide) (by decide)
  go_enter Try.func6, Try.ntmps6
  go_wp2_with fail
  refine hN.mono ?_
  rintro e w1 ⟨p, g, rfl, h1, b1, hp, hg⟩
  go_wp2_with fail
  clear hN hn hm0 hm1
  go_loopw [10] (fun i wr => ∃ k : Nat, k ≤ F + 1 ∧ i = .int .i64 k ∧ Tn wr p g (List.replicate n 0) (k + 1) ∧ Below w.heap.size w wr) (fun i _ => F + 1 - (intOf i).toNat)
  case atStart => exact ⟨0, by omega, rfl, h1, b1⟩
  case round =>
    obtain ⟨k, hk, rfl, hT, hB⟩ := hrel
    by_cases hlt : k < F + 1
    · by_cases hl : 0 < len
      · obtain ⟨_, hA2, hA3, hA4⟩ := hA
        obtain ⟨b, off, rfl, hbb, hc⟩ := hA4 hl
        obtain ⟨j1, hj1, e1⟩ : ∃ j : Nat, j < len ∧ (k : Int) % (len : Int) = j := ⟨k % len, Nat.mod_lt _ hl, by omega⟩
        obtain ⟨j2, hj2, e2⟩ : ∃ j : Nat, j < len ∧ ((k : Int) + 1) % (len : Int) = j := ⟨(k + 1) % len, Nat.mod_lt _ hl, by rw [show ((k : Int) + 1) = ((k + 1 : Nat) : Int) from by omega]; omega⟩
        have c1 := (hB.cell (p := ⟨b, off + j1 * 2 + 1, none⟩) hbb).trans (hc j1 hj1).2
        have c2 := (hc j2 hj2).2
        have HB := Lib.hid hB
        have HT := Lib.hid hT
        clear hc hA4 hB hT hA2
        have hl' : (0 : Int) < len := by omega
        go_wp2_with fail
        refine (tBlack_any _ p g _ _ _ HT.out).mono ?_
        rintro e w2 ⟨rfl, hT2, o2⟩
        have c3 := ((o2.below hp hg HB.out.size).cell (p := ⟨b, off + j2 * 2 + 1, none⟩) hbb).trans ((HB.out.cell (p := ⟨b, off + j2 * 2 + 1, none⟩) hbb).trans c2)
        have HB2 := Lib.hid (HB.out.trans (o2.below hp hg HB.out.size))
        have HT2 := Lib.hid hT2
        clear hT2 o2 HB HT c1 c2
        go_wp2_with fail
        refine (tShade_any _ p g _ _ _ HT2.out).mono ?_
        rintro e w3 ⟨rfl, hT3, o3⟩
        have HB3 := Lib.hid (HB2.out.trans (o3.below hp hg HB2.out.size))
        clear HB2 HT2 c3 o3
        go_wp2_with fail
        refine (tFlip_any _ p g _ _ hT3 (by omega)).mono ?_
        rintro e w4 ⟨rfl, hT4, o4⟩
        have hB4 := HB3.out.trans (o4.below hp hg HB3.out.size)
        rw [shC_len, blC_len, List.length_replicate] at hT4
        clear hT3 o4 HB3
        go_wp2_with fail
        go_roundw
        case rel => exact ⟨k + 1, by omega, by go_num, hT4, hB4⟩
        case measure => simp [intOf]; omega
      · go_wp2_with fail
        refine (tFlip_any _ p g _ _ hT (by omega)).mono ?_
        rintro e w2 ⟨rfl, hT2, o2⟩
        have hB2 := hB.trans (o2.below hp hg hB.size)
        rw [List.length_replicate] at hT2
        clear hT hB o2
        go_wp2_with fail
        go_roundw
        case rel => exact ⟨k + 1, by omega, by go_num, hT2, hB2⟩
        case measure => simp [intOf]; omega
    · have hk' : k = F + 1 := by omega
      have c3 := tCount_any wr p g _ _ 0 hT
      rw [cnt_white] at c3
      clear hA
      go_wp2_with fail
      refine c3.mono ?_
      rintro e w2 ⟨rfl, rfl⟩
      clear c3
      go_wp2_with fail
      have HB0 := Lib.hid hB
      rw [← greys_zero] at hT
      have HT0 := Lib.hid hT
      clear hB hT
      go_loopw [11] (fun i wx => ∃ j : Nat, j ≤ n ∧ i = .int .i64 j ∧ Tn wx p g (greys n j) (k + 1) ∧ Below w.heap.size w wx) (fun i _ => n - (intOf i).toNat)
      case atStart => exact ⟨0, by omega, rfl, HT0.out, HB0.out⟩
      case round =>
        obtain ⟨j, hj, rfl, hT, hB⟩ := hrel
        clear HT0 HB0
        by_cases hjl : j < n
        · have c1 := tShade_any wr p g _ _ (j : Int) hT
          rw [greys_shB hjl, greys_len (by omega), ofE_in hjl, greys_shC hjl] at c1
          have HB := Lib.hid hB
          clear hB hT
          go_wp2_with fail
          refine c1.mono ?_
          rintro e w2 ⟨rfl, hT2, o2⟩
          have c2 := tOf_any w2 p g _ _ (j : Int) hT2
          rw [greys_ofC hjl, greys_len (by omega), ofE_in hjl] at c2
          have HT2 := Lib.hid hT2
          have HB2 := Lib.hid (HB.out.trans (o2.below hp hg HB.out.size))
          clear hT2 o2 c1 HB
          go_wp2_with fail
          refine c2.mono ?_
          rintro e w3 ⟨rfl, rfl⟩
          clear c2
          go_wp2_with fail
          go_roundw
          case rel => exact ⟨j + 1, by omega, by go_num, HT2.out, HB2.out⟩
          case measure => simp [intOf]; omega
        · obtain rfl : j = n := by omega
          have c1 := tCount_any wr p g _ _ 1 hT
          rw [greys_all] at c1
          have c2 := awake_any wr
          have HB := Lib.hid hB
          clear hB hT
          go_wp2_with (first | (go_at_call 9; refine c1.mono ?_; rintro e w2 ⟨rfl, rfl⟩) | (go_at_call 8; refine c2.mono ?_; rintro e w3 ⟨rfl, b3⟩))
          go_ret
          exact ⟨rfl, HB.out.trans (b3.mono HB.out.size)⟩
end Go.Proofs.Ytcckppijabajdaa
