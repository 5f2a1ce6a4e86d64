/- The walks of package real: sums, and the least. -/
import Derived.Test.YthhlgdjpopdboaaRealG
import Derived.Test.YthhlgdjpopdboaaFloatEdges
namespace Go.Proofs.Ythhlgdjpopdboaa
open Go.RowKit FloatPlain Ieee

theorem rOf_any (n : Int) (h0 : -9223372036854775808 ≤ n) (h1 : n ≤ 9223372036854775807) (w : World) : Calls Try.prog 25 #[.int .i64 n] w fun e w' => e = .returned (.tuple #[.int .u64 (ofW n : Nat), .bool (ofB n)]) ∧ w = w' := by
  rcases Int.lt_trichotomy n 0 with h | h | h
  · exact rOf_neg n h h0 w
  · subst h
    have e1 : ofW 0 = 0 := by decide
    have e2 : ofB 0 = true := by
      unfold ofB
      rw [e1, (whole_zero (a := 0) (by decide)).1, (whole_zero (a := 0) (by decide)).2]; rfl
    rw [e1, e2]
    go_enter Try.func25, Try.ntmps25
    go_wp2_with fail
    go_ret2
    exact ⟨rfl, rfl⟩
  · exact rOf_pos n h h1 w

/-- words in a slice -/
def Wds (w : World) (A : Option Addr) (len : Nat) (f : Nat → Nat) : Prop :=
  (∀ i, f i < 2 ^ 64) ∧ len ≤ 9223372036854775807 ∧
  (0 < len → ∃ b off, A = some ⟨b, off, none⟩ ∧ b < w.heap.size ∧ ∀ i, i < len → w.cell? ⟨b, off + i, none⟩ = some (.int .u64 (f i : Nat)))
/-- the first n of them -/
def Lf (f : Nat → Nat) (n : Nat) : List Nat := (List.range n).map f
theorem acc_Lf (f : Nat → Nat) (k : Nat) (h : 1 ≤ k) : acc (Lf f (k + 1)) = addA (acc (Lf f k)) (f k) := by
  obtain ⟨m, rfl⟩ : ∃ m, k = m + 1 := ⟨k - 1, by omega⟩
  unfold Lf
  rw [List.range_succ, List.map_append, List.range_succ_eq_map]
  exact acc_snoc _ _ _
/-- a sum goes on -/
theorem add_step {b x : Nat} {s : Option Nat} (h : Stands b s) (w : World) (n : Nat) : ∃ r n' : Nat, (∀ P : Program, (binOp .add 44 (.float .f64 b) (.float .f64 x)).run P (w.drewN n) = .ok (.float .f64 r) (w.drewN n')) ∧ Stands r (addA s x) := by
  cases ha : double.add b x with
  | none => exact ⟨nb (w.drewN n) b x, n + 1, fun P => run_float_nan (w.drewN n) .add 44 b x (.inl rfl) ha, stands_nan h ha (nb_nan _ b x).2 (nb_nan _ b x).1⟩
  | some r => exact ⟨r, n, fun P => run_float_arith (w.drewN n) .add 44 .f64 b x r ha, stands_add h ha⟩
theorem stands_sumW {b : Nat} {l : List Nat} (h : Stands b (acc l)) : canon b = sumW l := by
  unfold sumW
  generalize acc l = o at h ⊢
  cases o with
  | none => exact h.canon
  | some r => exact h.canon
set_option maxHeartbeats 1000000 in
theorem psum_any (w : World) (A : Option Addr) (len cap : Nat) (f : Nat → Nat) (h : Wds w A len f) (hcap : len ≤ cap) :
    Calls Try.prog 26 #[.slice A len cap] w fun e w' => e = .returned (.int .u64 (sumW (Lf f len) : Nat)) ∧ ∃ n, w' = w.drewN n := by
  obtain ⟨hf, hl, hc⟩ := h
  by_cases h0 : len = 0
  · subst h0
    have e : sumW (Lf f 0) = 0 := rfl
    rw [e]
    clear hf hl hc e
    go_enter Try.func26, Try.ntmps26
    go_wp2_with fail
    go_ret
    exact ⟨rfl, 0, rfl⟩
  obtain ⟨b, off, rfl, hb, hcell⟩ := hc (by omega)
  have c0 := hcell 0 (by omega)
  rw [Nat.add_zero] at c0
  have o := fun a w => of_any a w
  have E : Hid (∀ s, Stands s (acc (Lf f len)) → canon s = sumW (Lf f len)) := Lib.hid fun s hs => stands_sumW hs
  generalize sumW (Lf f len) = R at *
  have S0 : Stands (f 0) (acc (Lf f 1)) := stands_start (hf 0)
  have l0 : 0 < len := by omega
  have hn : (len : Int) ≠ 0 := by omega
  clear hc h0
  go_enter Try.func26, Try.ntmps26
  go_upto_region 4 with (go_at_call 30; refine (o _ _).mono ?_; rintro e w' ⟨rfl, rfl⟩)
  by_cases hc1 : cap = 1
  · have h1 : len = 1 := by omega
    subst h1 hc1
    have ec : canon (f 0) = R := E.out _ S0
    have ca := fun w => canon_any (f 0) w
    rw [ec] at ca
    have fb := fun w => run_bits (f 0) w
    clear ec S0
    go_wp2_with fail
    go_loop [3, 16] (fun s i => s = .float .f64 (f 0) ∧ i = .int .i64 0) (fun _ i => 1)
    case atStart => exact ⟨rfl, rfl⟩
    case round =>
      obtain ⟨rfl, rfl⟩ := hrel
      go_wp2_with fail
      refine (ca _).mono ?_
      rintro e w' ⟨rfl, rfl⟩
      go_wp2_with fail
      go_ret
      exact ⟨rfl, 0, rfl⟩
  · have hc2 : 2 ≤ cap := by omega
    go_wp2_with fail
    go_loopw [3, 16] (fun s i wr => ∃ (k n b' : Nat), k + 1 ≤ len ∧ i = .int .i64 k ∧ s = .float .f64 b' ∧ wr = w.drewN n ∧ Stands b' (acc (Lf f (k + 1)))) (fun _ i _ => len - (intOf i).toNat)
    case atStart => exact ⟨0, 0, _, by omega, rfl, rfl, rfl, S0⟩
    case round =>
      obtain ⟨k, n, b', hk, rfl, rfl, rfl, S⟩ := hrel
      by_cases hlt : k < len - 1
      · obtain ⟨r, n', hr, Sr⟩ := add_step (x := f (k + 1)) S w n
        have ck := hcell (k + 1) (by omega)
        rw [show off + (k + 1) = off + 1 + k by omega] at ck
        have hr := hr Try.prog
        rw [← acc_Lf f (k + 1) (by omega)] at Sr
        generalize f (k + 1) = x at *
        have SR := Lib.hid Sr
        clear Sr S
        go_wp2_with (go_at_call 30; refine (o _ _).mono ?_; rintro e w' ⟨rfl, rfl⟩)
        go_roundw
        case rel => exact ⟨k + 1, n', r, by omega, by go_num, rfl, rfl, SR.out⟩
        case measure => simp [intOf]; omega
      · have ec : canon b' = R := E.out _ (by rw [show len = k + 1 by omega]; exact S)
        have ca := fun w => canon_any b' w
        rw [ec] at ca
        have fb := fun w => run_bits b' w
        clear ec S
        go_wp2_with fail
        refine (ca _).mono ?_
        rintro e w' ⟨rfl, rfl⟩
        go_wp2_with fail
        go_ret
        exact ⟨rfl, n, rfl⟩
set_option maxHeartbeats 1000000 in
theorem rsum_any (w : World) (A : Option Addr) (len cap : Nat) (f : Nat → Nat) (h : Wds w A len f) :
    Calls Try.prog 27 #[.slice A len cap] w fun e w' => e = .returned (.int .u64 (sumW (Lf f len) : Nat)) ∧ ∃ n, w' = w.drewN n := by
  obtain ⟨hf, hl, hc⟩ := h
  by_cases h0 : len = 0
  · subst h0
    have e : sumW (Lf f 0) = 0 := rfl
    rw [e]
    clear hf hl hc e
    go_enter Try.func27, Try.ntmps27
    go_wp2_with fail
    go_ret
    exact ⟨rfl, 0, rfl⟩
  obtain ⟨b, off, rfl, hb, hcell⟩ := hc (by omega)
  have c0 := hcell 0 (by omega)
  rw [Nat.add_zero] at c0
  have fr := fun n w => run_frombits n w
  have E : Hid (∀ s, Stands s (acc (Lf f len)) → canon s = sumW (Lf f len)) := Lib.hid fun s hs => stands_sumW hs
  generalize sumW (Lf f len) = R at *
  have S0 : Stands (f 0) (acc (Lf f 1)) := stands_start (hf 0)
  have l0 : 0 < len := by omega
  have hn : (len : Int) ≠ 0 := by omega
  clear hc h0
  go_enter Try.func27, Try.ntmps27
  go_wp2_with fail
  go_loopw [3, 4] (fun s i wr => ∃ (k n b' : Nat), 1 ≤ k ∧ k ≤ len ∧ i = .int .i64 k ∧ s = .float .f64 b' ∧ wr = w.drewN n ∧ Stands b' (acc (Lf f k))) (fun _ i _ => len - (intOf i).toNat)
  case atStart => exact ⟨1, 0, _, by omega, by omega, rfl, rfl, rfl, S0⟩
  case round =>
    obtain ⟨k, n, b', hk1, hk, rfl, rfl, rfl, S⟩ := hrel
    by_cases hlt : k < len
    · obtain ⟨r, n', hr, Sr⟩ := add_step (x := f k) S w n
      have ck := hcell k hlt
      have hr := hr Try.prog
      rw [← acc_Lf f k hk1] at Sr
      clear hcell
      generalize f k = x at *
      have SR := Lib.hid Sr
      clear Sr S
      go_wp2_with fail
      go_roundw
      case rel => exact ⟨k + 1, n', r, by omega, by omega, by go_num, rfl, rfl, SR.out⟩
      case measure => simp [intOf]; omega
    · have hk2 : k = len := by omega
      subst hk2
      have ec : canon b' = R := E.out _ S
      have ca := fun w => rCanon_any b' S.1 w
      rw [ec] at ca
      have fb := fun w => run_bits b' w
      clear ec S hk1
      go_wp2_with fail
      refine (ca _).mono ?_
      rintro e w' ⟨rfl, rfl⟩
      go_wp2_with fail
      go_ret
      exact ⟨rfl, n, rfl⟩

/-! the least -/
def stepL (best x : Nat) : Nat := if cmpI x best < 0 then x else best
def leastN (l : List Nat) : Nat := l.foldl stepL NAN
theorem least_Lf (f : Nat → Nat) (k : Nat) : leastN (Lf f (k + 1)) = stepL (leastN (Lf f k)) (f k) := by
  unfold leastN Lf
  rw [List.range_succ, List.map_append, List.foldl_append]; rfl
theorem key_NAN {a : Nat} (ha : a < 2 ^ 64) : key a ≤ key NAN := by
  have h2 : key NAN = 18444492273895866368 := by decide
  rw [h2]
  unfold key canon
  by_cases h : inf < rung a
  · rw [if_pos h, if_neg (by decide)]; decide
  · rw [if_neg h]; unfold rung inf at h; split <;> omega
theorem least_lt (f : Nat → Nat) (hf : ∀ i, f i < 2 ^ 64) (k : Nat) : leastN (Lf f k) < 2 ^ 64 ∧ canon (leastN (Lf f k)) = leastN (Lf f k) := by
  induction k with
  | zero => exact ⟨show NAN < 2 ^ 64 by decide, show canon NAN = NAN by decide⟩
  | succ k ih =>
    rw [least_Lf]
    unfold stepL
    split
    · rename_i h
      refine ⟨hf k, canon_of ?_⟩
      rw [cmpI_lt] at h
      have h2 := key_NAN ih.1
      rcases Nat.lt_or_ge inf (rung (f k)) with g | g
      · exfalso
        have : key (f k) = key NAN := by unfold key; rw [canon_nan.2 g, show canon NAN = NAN by decide]
        omega
      · exact g
    · exact ih
set_option maxHeartbeats 1000000 in
theorem pleast_any (w : World) (A : Option Addr) (len cap : Nat) (f : Nat → Nat) (h : Wds w A len f) :
    Calls Try.prog 28 #[.slice A len cap] w fun e w' => e = .returned (.int .u64 (leastN (Lf f len) : Nat)) ∧ w = w' := by
  obtain ⟨hf, hl, hc⟩ := h
  have E : Hid (∀ k, leastN (Lf f k) < 2 ^ 64) := Lib.hid fun k => (least_lt f hf k).1
  have HF := Lib.hid hf
  have HC := Lib.hid hc
  clear hf hc
  go_enter Try.func28, Try.ntmps28
  go_wp2_with fail
  go_loop [3, 8] (fun s i => ∃ (k : Nat), k ≤ len ∧ i = .int .i64 k ∧ s = .int .u64 (leastN (Lf f k) : Nat)) (fun _ i => len - (intOf i).toNat)
  case atStart => exact ⟨0, by omega, rfl, rfl⟩
  case round =>
    obtain ⟨k, hk, rfl, rfl⟩ := hrel
    by_cases hlt : k < len
    · obtain ⟨b, off, rfl, hb, hcell⟩ := HC.out (by omega)
      have ck := hcell k hlt
      have cm := fun w => compare_any (f k) (leastN (Lf f k)) (HF.out k) (E.out k) w
      have st := least_Lf f k
      unfold stepL at st
      generalize leastN (Lf f k) = best at *
      generalize f k = x at *
      by_cases hc : cmpI x best < 0
      · rw [if_pos hc] at st
        generalize cmpI x best = c at *
        have ST := Lib.hid st
        clear st hcell
        go_wp2_with (go_at_call 22; refine (cm _).mono ?_; rintro e w' ⟨rfl, rfl⟩)
        go_round
        case rel => exact ⟨k + 1, by omega, by go_num, by rw [ST.out]⟩
        case measure => simp [intOf]; omega
      · rw [if_neg hc] at st
        generalize cmpI x best = c at *
        have ST := Lib.hid st
        clear st hcell
        go_wp2_with (go_at_call 22; refine (cm _).mono ?_; rintro e w' ⟨rfl, rfl⟩)
        go_round
        case rel => exact ⟨k + 1, by omega, by go_num, by rw [ST.out]⟩
        case measure => simp [intOf]; omega
    · have hk2 : k = len := by omega
      subst hk2
      go_wp2_with fail
      go_ret
      exact ⟨rfl, rfl⟩
set_option maxHeartbeats 1000000 in
theorem rleast_any (w : World) (A : Option Addr) (len cap : Nat) (f : Nat → Nat) (h : Wds w A len f) :
    Calls Try.prog 29 #[.slice A len cap] w fun e w' => e = .returned (.int .u64 (leastN (Lf f len) : Nat)) ∧ w = w' := by
  obtain ⟨hf, hl, hc⟩ := h
  have E : Hid (∀ k, leastN (Lf f k) < 2 ^ 64 ∧ canon (leastN (Lf f k)) = leastN (Lf f k)) := Lib.hid fun k => least_lt f hf k
  have HF := Lib.hid hf
  have HC := Lib.hid hc
  clear hf hc
  go_enter Try.func29, Try.ntmps29
  go_wp2_with fail
  go_loop [3, 4] (fun s i => ∃ (k : Nat), k ≤ len ∧ i = .int .i64 k ∧ s = .int .u64 (leastN (Lf f k) : Nat)) (fun _ i => len - (intOf i).toNat)
  case atStart => exact ⟨0, by omega, rfl, rfl⟩
  case round =>
    obtain ⟨k, hk, rfl, rfl⟩ := hrel
    by_cases hlt : k < len
    · obtain ⟨b, off, rfl, hb, hcell⟩ := HC.out (by omega)
      have ck := hcell k hlt
      have cm := fun w => rCompare_any (f k) (leastN (Lf f k)) (HF.out k) (E.out k).1 w
      have st := least_Lf f k
      unfold stepL at st
      generalize leastN (Lf f k) = best at *
      generalize f k = x at *
      by_cases hc : cmpI x best < 0
      · rw [if_pos hc] at st
        generalize cmpI x best = c at *
        have ST := Lib.hid st
        clear st hcell
        go_wp2_with (go_at_call 23; refine (cm _).mono ?_; rintro e w' ⟨rfl, rfl⟩)
        go_round
        case rel => exact ⟨k + 1, by omega, by go_num, by rw [ST.out]⟩
        case measure => simp [intOf]; omega
      · rw [if_neg hc] at st
        generalize cmpI x best = c at *
        have ST := Lib.hid st
        clear st hcell
        go_wp2_with (go_at_call 23; refine (cm _).mono ?_; rintro e w' ⟨rfl, rfl⟩)
        go_round
        case rel => exact ⟨k + 1, by omega, by go_num, by rw [ST.out]⟩
        case measure => simp [intOf]; omega
    · have hk2 : k = len := by omega
      subst hk2
      have ca := fun w => rCanon_any (leastN (Lf f k)) (E.out k).1 w
      rw [(E.out k).2] at ca
      go_wp2_with fail
      refine (ca _).mono ?_
      rintro e w' ⟨rfl, rfl⟩
      go_wp2_with fail
      go_ret
      exact ⟨rfl, rfl⟩
end Go.Proofs.Ythhlgdjpopdboaa
