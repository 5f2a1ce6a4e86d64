/- The walk of the statement on sums with NaNs, infinities and zeros: the loop. -/
import Derived.Test.YthhlgdjpopdboaaRealN
namespace Go.Proofs.Ythhlgdjpopdboaa
open Go.RowKit FloatPlain Ieee

/-- a world behind draws -/
def Drawn (w wr : World) : Prop := ∃ n, wr = w.drewN n
theorem Drawn.drewN {w wr : World} (h : Drawn w wr) (n : Nat) : Drawn w (wr.drewN n) := by
  obtain ⟨m, rfl⟩ := h
  exact ⟨m + n, by simp [World.drewN]; omega⟩
theorem Drawn.wds {w wr : World} (h : Drawn w wr) {A : Option Addr} {len : Nat} {f : Nat → Nat} (H : Wds w A len f) : Wds wr A len f := by
  obtain ⟨m, rfl⟩ := h; exact H
theorem Drawn.below {w wr w' : World} (h : Drawn w wr) {B : Nat} (hb : Below B wr w') : Below B w w' := by
  obtain ⟨m, rfl⟩ := h; exact unN hb
theorem Drawn.mono {w wr w' : World} (h : Drawn w wr) (hb : Below wr.heap.size wr w') : Below w.heap.size w w' := by
  obtain ⟨m, rfl⟩ := h; exact unN hb
theorem quiet_same {P : Program} {f : FuncId} {args : Array Value} {w : World} {n : Nat} {v : Value}
    (h : Calls P f args (w.drewN n) fun e w' => e = .returned v ∧ w.drewN n = w') : Calls P f args (w.drewN n) fun e w'' => e = .returned v ∧ ∃ m, w'' = w.drewN m :=
  h.mono fun _ _ ⟨he, hm⟩ => ⟨he, n, hm.symm⟩
/-- what a word adds to the counts -/
def Adds (x : Nat) (k : Int) (s : Bool) (n u d z m : Nat) : Prop :=
  kindI x = k ∧ sgn x = s ∧ (if pNan x then 1 else 0) = n ∧ (if pUp x then 1 else 0) = u ∧ (if pDown x then 1 else 0) = d ∧ (if pZero x then 1 else 0) = z ∧ (if pMinus x then 1 else 0) = m
theorem ways (x : Nat) : (∃ s, Adds x 0 s 1 0 0 0 0) ∨ Adds x 1 true 0 0 1 0 0 ∨ Adds x 1 false 0 1 0 0 0 ∨ (∃ s, Adds x 2 s 0 0 0 0 0 ∧ rung x < inf) ∨ (∃ s, Adds x 3 s 0 0 0 0 0 ∧ rung x < 2 ^ 52) ∨ Adds x 4 true 0 0 0 1 1 ∨ Adds x 4 false 0 0 0 1 0 := by
  have hi : inf ≠ 0 := by decide
  have h52 : 2 ^ 52 < inf := by decide
  unfold Adds pNan pUp pDown pZero pMinus kindI
  by_cases h1 : inf < rung x
  · left
    refine ⟨sgn x, ?_⟩
    have h2 : ¬ rung x = inf := by omega
    have h3 : ¬ rung x = 0 := by omega
    simp [h1, h2, h3]
  by_cases h2 : rung x = inf
  · have h3 : ¬ rung x = 0 := by omega
    right
    cases hs : sgn x
    · right; left; simp [h2, hi]
    · left; simp [h2, hi]
  by_cases h4 : 2 ^ 52 ≤ rung x
  · right; right; right; left
    have h3 : ¬ rung x = 0 := by omega
    exact ⟨sgn x, by simp [h1, h2, h3]; omega, by omega⟩
  by_cases h3 : rung x = 0
  · right; right; right; right; right
    cases hs : sgn x
    · right; simp [h3, Ne.symm hi]
    · left; simp [h3, Ne.symm hi]
  · right; right; right; right; left
    exact ⟨sgn x, by simp [h1, h2, h3]; omega, by omega⟩
theorem small_low {x : Nat} (h : rung x < 2 ^ 52) : V (rung x) ≤ B := V_small (by omega)
theorem small_exp {x : Nat} (h : (x : Int) / 4503599627370496 % 2048 ≤ 1923) : V (rung x) ≤ B := V_small (by unfold rung; omega)

theorem int_eq {a b : Int} (h : a = b) : Value.int .i64 a = .int .i64 b := by rw [h]
theorem sum_lt (l : List Nat) (h : ∀ x ∈ l, x < 2 ^ 64) : sumW l < 2 ^ 64 := by
  have main : ∀ (r : List Nat) (s : Option Nat), (∀ q, s = some q → q < 2 ^ 64) → ∀ q, r.foldl addA s = some q → q < 2 ^ 64 := by
    intro r
    induction r with
    | nil => intro s hs q hq; exact hs q hq
    | cons x r ih =>
      intro s hs q hq
      refine ih (addA s x) ?_ q hq
      intro q' hq'
      cases s with
      | none => cases hq'
      | some v => exact (add_ok hq').1
  unfold sumW
  cases e : acc l with
  | none => show NAN < 2 ^ 64; decide
  | some r =>
    show r < 2 ^ 64
    cases l with
    | nil => cases e; decide
    | cons x t =>
      refine main t (FloatPlain.start x) ?_ r e
      intro q hq
      unfold FloatPlain.start at hq
      split at hq
      · cases hq
      · cases hq; exact h _ (by simp)
set_option maxRecDepth 100000 in
set_option maxHeartbeats 8000000 in
theorem edges_walk (w : World) (A : Option Addr) (len cap : Nat) (f : Nat → Nat) (h : Wds w A len f) (hcap : len ≤ cap) : Calls Try.prog 11 #[.slice A len cap] w fun e w' => e = .returned (.bool true) ∧ Below w.heap.size w w' := by
  have aw := fun w => awake_any w
  have hl := h.2.1
  by_cases hg : 100 < len
  · clear h
    go_enter Try.func11, Try.ntmps11
    go_wp2_with fail
    refine (aw _).mono ?_
    rintro e w4 ⟨rfl, b4⟩
    go_wp2_with fail
    go_ret
    exact ⟨rfl, b4⟩
  have HW := Lib.hid h
  have HL : Hid (∀ i, i < len → cmpI (leastN (Lf f len)) (f i) ≤ 0) := Lib.hid fun i hi => cmpI_le.2 (key_least f len i hi)
  have HT : Hid (leastN (Lf f len) < 2 ^ 64) := Lib.hid (least_lt f h.1 len).1
  clear h
  go_enter Try.func11, Try.ntmps11
  go_wp2_with fail
  go_loopw [3, 4, 5, 6, 7, 8] (fun n u d z m i wr => ∃ k : Nat, k ≤ len ∧ i = .int .i64 k ∧ n = .int .i64 (cnt pNan f k : Nat) ∧ u = .int .i64 (cnt pUp f k : Nat) ∧ d = .int .i64 (cnt pDown f k : Nat) ∧ z = .int .i64 (cnt pZero f k : Nat) ∧ m = .int .i64 (cnt pMinus f k : Nat) ∧
    Drawn w wr ∧ ∀ i, i < k → rung (f i) < inf → V (rung (f i)) ≤ B) (fun _ _ _ _ _ i _ => len - (intOf i).toNat)
  case atStart => exact ⟨0, by omega, rfl, rfl, rfl, rfl, rfl, rfl, ⟨0, rfl⟩, fun i hi => absurd hi (by omega)⟩
  case round =>
    obtain ⟨k, hk, rfl, rfl, rfl, rfl, rfl, rfl, hD, hsm⟩ := hrel
    have D := Lib.hid hD
    have SM := Lib.hid hsm
    clear hD hsm
    by_cases hlt : k < len
    · have n1 := cnt_le pNan f k
      have n2 := cnt_le pUp f k
      have n3 := cnt_le pDown f k
      have n4 := cnt_le pZero f k
      have n5 := cnt_le pMinus f k
      have e1 := Lib.hid (cnt_succ pNan f k)
      have e2 := Lib.hid (cnt_succ pUp f k)
      have e3 := Lib.hid (cnt_succ pDown f k)
      have e4 := Lib.hid (cnt_succ pZero f k)
      have e5 := Lib.hid (cnt_succ pMinus f k)
      generalize cnt pNan f k = c1 at *
      generalize cnt pUp f k = c2 at *
      generalize cnt pDown f k = c3 at *
      generalize cnt pZero f k = c4 at *
      generalize cnt pMinus f k = c5 at *
      have WR := Lib.hid (D.out.wds HW.out)
      obtain ⟨b, off, rfl, hbb, hcell⟩ := WR.out.2.2 (by omega)
      have ck := hcell k hlt
      clear hcell
      have hxl := WR.out.1 k
      have rk := fun w => rKind_any (f k) hxl w
      have pl : Hid (∀ n, Calls Try.prog 28 #[.slice (some ⟨b, off, none⟩) len cap] (wr.drewN n) fun e w' => e = .returned (.int .u64 (leastN (Lf f len) : Nat)) ∧ wr.drewN n = w') := Lib.hid fun n => pleast_any _ _ _ cap f WR.out
      have pc : Hid (∀ n, Calls Try.prog 22 #[.int .u64 (leastN (Lf f len) : Nat), .int .u64 (f k : Nat)] (wr.drewN n) fun e w' => e = .returned (.int .i64 (cmpI (leastN (Lf f len)) (f k))) ∧ wr.drewN n = w') := Lib.hid fun n => compare_any _ _ HT.out hxl _
      have hcl := HL.out k hlt
      have wy := ways (f k)
      have sx : Hid (rung (f k) < 2 ^ 52 → V (rung (f k)) ≤ B) := Lib.hid small_low
      have sy : Hid ((f k : Int) / 4503599627370496 % 2048 ≤ 1923 → V (rung (f k)) ≤ B) := Lib.hid small_exp
      have nx : Hid ((rung (f k) < inf → V (rung (f k)) ≤ B) → ∀ i, i < k + 1 → rung (f i) < inf → V (rung (f i)) ≤ B) := Lib.hid fun h i hi hr => by
        by_cases e : i = k
        · subst e; exact h hr
        · exact SM.out i (by omega) hr
      generalize leastN (Lf f len) = ls at *
      generalize hX : f k = x at *
      generalize cmpI ls x = cc at *
      unfold Adds at wy
      clear hX hxl
      have hj0 : (0 : Int) ≤ k := by omega
      have hj1 : (k : Int) < len := by omega
      rcases wy with ⟨s, h1, h2, h3, h4, h5, h6, h7⟩ | ⟨h1, h2, h3, h4, h5, h6, h7⟩ | ⟨h1, h2, h3, h4, h5, h6, h7⟩ | ⟨s, ⟨h1, h2, h3, h4, h5, h6, h7⟩, hr⟩ | ⟨s, ⟨h1, h2, h3, h4, h5, h6, h7⟩, hr⟩ | ⟨h1, h2, h3, h4, h5, h6, h7⟩ | ⟨h1, h2, h3, h4, h5, h6, h7⟩
      · have E1 : Hid (cnt pNan f (k + 1) = c1 + 1) := Lib.hid (by rw [e1.out, h3])
        have E2 : Hid (cnt pUp f (k + 1) = c2 + 0) := Lib.hid (by rw [e2.out, h4])
        have E3 : Hid (cnt pDown f (k + 1) = c3 + 0) := Lib.hid (by rw [e3.out, h5])
        have E4 : Hid (cnt pZero f (k + 1) = c4 + 0) := Lib.hid (by rw [e4.out, h6])
        have E5 : Hid (cnt pMinus f (k + 1) = c5 + 0) := Lib.hid (by rw [e5.out, h7])
        have NX := Lib.hid (nx.out fun hr => absurd h1 (by unfold kindI; rw [if_neg (by omega), if_neg (by omega)]; split <;> (try split) <;> decide))
        rw [h1, h2] at rk
        clear h1 h2 h3 h4 h5 h6 h7 e1 e2 e3 e4 e5
        go_wp2_with fail
        refine (rk _).mono ?_
        rintro e w' ⟨rfl, rfl⟩
        go_wp2_with fail
        go_quiet (first | (go_at_call 28; exact quiet_same (pl.out _)) | (go_at_call 22; exact quiet_same (pc.out _)))
        go_wp2_with fail
        go_roundw
        case rel => exact ⟨k + 1, by omega, by go_num, int_eq (by have := E1.out; omega), int_eq (by have := E2.out; omega), int_eq (by have := E3.out; omega), int_eq (by have := E4.out; omega), int_eq (by have := E5.out; omega), D.out.drewN _, NX.out⟩
        case measure => simp [intOf]; omega
      · have E1 : Hid (cnt pNan f (k + 1) = c1 + 0) := Lib.hid (by rw [e1.out, h3])
        have E2 : Hid (cnt pUp f (k + 1) = c2 + 0) := Lib.hid (by rw [e2.out, h4])
        have E3 : Hid (cnt pDown f (k + 1) = c3 + 1) := Lib.hid (by rw [e3.out, h5])
        have E4 : Hid (cnt pZero f (k + 1) = c4 + 0) := Lib.hid (by rw [e4.out, h6])
        have E5 : Hid (cnt pMinus f (k + 1) = c5 + 0) := Lib.hid (by rw [e5.out, h7])
        have NX := Lib.hid (nx.out fun hr => absurd h1 (by unfold kindI; rw [if_neg (by omega), if_neg (by omega)]; split <;> (try split) <;> decide))
        rw [h1, h2] at rk
        clear h1 h2 h3 h4 h5 h6 h7 e1 e2 e3 e4 e5
        go_wp2_with fail
        refine (rk _).mono ?_
        rintro e w' ⟨rfl, rfl⟩
        go_wp2_with fail
        go_quiet (first | (go_at_call 28; exact quiet_same (pl.out _)) | (go_at_call 22; exact quiet_same (pc.out _)))
        go_wp2_with fail
        go_roundw
        case rel => exact ⟨k + 1, by omega, by go_num, int_eq (by have := E1.out; omega), int_eq (by have := E2.out; omega), int_eq (by have := E3.out; omega), int_eq (by have := E4.out; omega), int_eq (by have := E5.out; omega), D.out.drewN _, NX.out⟩
        case measure => simp [intOf]; omega
      · have E1 : Hid (cnt pNan f (k + 1) = c1 + 0) := Lib.hid (by rw [e1.out, h3])
        have E2 : Hid (cnt pUp f (k + 1) = c2 + 1) := Lib.hid (by rw [e2.out, h4])
        have E3 : Hid (cnt pDown f (k + 1) = c3 + 0) := Lib.hid (by rw [e3.out, h5])
        have E4 : Hid (cnt pZero f (k + 1) = c4 + 0) := Lib.hid (by rw [e4.out, h6])
        have E5 : Hid (cnt pMinus f (k + 1) = c5 + 0) := Lib.hid (by rw [e5.out, h7])
        have NX := Lib.hid (nx.out fun hr => absurd h1 (by unfold kindI; rw [if_neg (by omega), if_neg (by omega)]; split <;> (try split) <;> decide))
        rw [h1, h2] at rk
        clear h1 h2 h3 h4 h5 h6 h7 e1 e2 e3 e4 e5
        go_wp2_with fail
        refine (rk _).mono ?_
        rintro e w' ⟨rfl, rfl⟩
        go_wp2_with fail
        go_quiet (first | (go_at_call 28; exact quiet_same (pl.out _)) | (go_at_call 22; exact quiet_same (pc.out _)))
        go_wp2_with fail
        go_roundw
        case rel => exact ⟨k + 1, by omega, by go_num, int_eq (by have := E1.out; omega), int_eq (by have := E2.out; omega), int_eq (by have := E3.out; omega), int_eq (by have := E4.out; omega), int_eq (by have := E5.out; omega), D.out.drewN _, NX.out⟩
        case measure => simp [intOf]; omega
      · have E1 : Hid (cnt pNan f (k + 1) = c1 + 0) := Lib.hid (by rw [e1.out, h3])
        have E2 : Hid (cnt pUp f (k + 1) = c2 + 0) := Lib.hid (by rw [e2.out, h4])
        have E3 : Hid (cnt pDown f (k + 1) = c3 + 0) := Lib.hid (by rw [e3.out, h5])
        have E4 : Hid (cnt pZero f (k + 1) = c4 + 0) := Lib.hid (by rw [e4.out, h6])
        have E5 : Hid (cnt pMinus f (k + 1) = c5 + 0) := Lib.hid (by rw [e5.out, h7])
        rw [h1, h2] at rk
        clear h1 h2 h3 h4 h5 h6 h7 e1 e2 e3 e4 e5 hr
        by_cases hE : (x : Int) / 4503599627370496 % 2048 ≤ 1923
        · have NX := Lib.hid (nx.out fun _ => sy.out hE)
          go_wp2_with fail
          refine (rk _).mono ?_
          rintro e w' ⟨rfl, rfl⟩
          go_wp2_with fail
          go_quiet (first | (go_at_call 28; exact quiet_same (pl.out _)) | (go_at_call 22; exact quiet_same (pc.out _)))
          go_wp2_with fail
          go_roundw
          case rel => exact ⟨k + 1, by omega, by go_num, int_eq (by have := E1.out; omega), int_eq (by have := E2.out; omega), int_eq (by have := E3.out; omega), int_eq (by have := E4.out; omega), int_eq (by have := E5.out; omega), D.out.drewN _, NX.out⟩
          case measure => simp [intOf]; omega
        · have hE' : 1923 < (x : Int) / 4503599627370496 % 2048 := by omega
          clear hE
          go_wp2_with fail
          refine (rk _).mono ?_
          rintro e w' ⟨rfl, rfl⟩
          go_wp2_with fail
          go_quiet (first | (go_at_call 28; exact quiet_same (pl.out _)) | (go_at_call 22; exact quiet_same (pc.out _)))
          go_wp2_with fail
          refine (aw _).mono ?_
          rintro e w4 ⟨rfl, b4⟩
          have B4 := Lib.hid ((D.out.drewN _).mono b4)
          go_wp2_with fail
          go_ret
          exact ⟨rfl, B4.out⟩
      · have E1 : Hid (cnt pNan f (k + 1) = c1 + 0) := Lib.hid (by rw [e1.out, h3])
        have E2 : Hid (cnt pUp f (k + 1) = c2 + 0) := Lib.hid (by rw [e2.out, h4])
        have E3 : Hid (cnt pDown f (k + 1) = c3 + 0) := Lib.hid (by rw [e3.out, h5])
        have E4 : Hid (cnt pZero f (k + 1) = c4 + 0) := Lib.hid (by rw [e4.out, h6])
        have E5 : Hid (cnt pMinus f (k + 1) = c5 + 0) := Lib.hid (by rw [e5.out, h7])
        have NX := Lib.hid (nx.out fun _ => sx.out hr)
        rw [h1, h2] at rk
        clear h1 h2 h3 h4 h5 h6 h7 e1 e2 e3 e4 e5 hr
        go_wp2_with fail
        refine (rk _).mono ?_
        rintro e w' ⟨rfl, rfl⟩
        go_wp2_with fail
        go_quiet (first | (go_at_call 28; exact quiet_same (pl.out _)) | (go_at_call 22; exact quiet_same (pc.out _)))
        go_wp2_with fail
        go_roundw
        case rel => exact ⟨k + 1, by omega, by go_num, int_eq (by have := E1.out; omega), int_eq (by have := E2.out; omega), int_eq (by have := E3.out; omega), int_eq (by have := E4.out; omega), int_eq (by have := E5.out; omega), D.out.drewN _, NX.out⟩
        case measure => simp [intOf]; omega
      · have E1 : Hid (cnt pNan f (k + 1) = c1 + 0) := Lib.hid (by rw [e1.out, h3])
        have E2 : Hid (cnt pUp f (k + 1) = c2 + 0) := Lib.hid (by rw [e2.out, h4])
        have E3 : Hid (cnt pDown f (k + 1) = c3 + 0) := Lib.hid (by rw [e3.out, h5])
        have E4 : Hid (cnt pZero f (k + 1) = c4 + 1) := Lib.hid (by rw [e4.out, h6])
        have E5 : Hid (cnt pMinus f (k + 1) = c5 + 1) := Lib.hid (by rw [e5.out, h7])
        have NX := Lib.hid (nx.out fun _ => sx.out (by rw [(kind_zero x).1 h1]; decide))
        rw [h1, h2] at rk
        clear h1 h2 h3 h4 h5 h6 h7 e1 e2 e3 e4 e5
        go_wp2_with fail
        refine (rk _).mono ?_
        rintro e w' ⟨rfl, rfl⟩
        go_wp2_with fail
        go_quiet (first | (go_at_call 28; exact quiet_same (pl.out _)) | (go_at_call 22; exact quiet_same (pc.out _)))
        go_wp2_with fail
        go_roundw
        case rel => exact ⟨k + 1, by omega, by go_num, int_eq (by have := E1.out; omega), int_eq (by have := E2.out; omega), int_eq (by have := E3.out; omega), int_eq (by have := E4.out; omega), int_eq (by have := E5.out; omega), D.out.drewN _, NX.out⟩
        case measure => simp [intOf]; omega
      · have E1 : Hid (cnt pNan f (k + 1) = c1 + 0) := Lib.hid (by rw [e1.out, h3])
        have E2 : Hid (cnt pUp f (k + 1) = c2 + 0) := Lib.hid (by rw [e2.out, h4])
        have E3 : Hid (cnt pDown f (k + 1) = c3 + 0) := Lib.hid (by rw [e3.out, h5])
        have E4 : Hid (cnt pZero f (k + 1) = c4 + 1) := Lib.hid (by rw [e4.out, h6])
        have E5 : Hid (cnt pMinus f (k + 1) = c5 + 0) := Lib.hid (by rw [e5.out, h7])
        have NX := Lib.hid (nx.out fun _ => sx.out (by rw [(kind_zero x).1 h1]; decide))
        rw [h1, h2] at rk
        clear h1 h2 h3 h4 h5 h6 h7 e1 e2 e3 e4 e5
        go_wp2_with fail
        refine (rk _).mono ?_
        rintro e w' ⟨rfl, rfl⟩
        go_wp2_with fail
        go_quiet (first | (go_at_call 28; exact quiet_same (pl.out _)) | (go_at_call 22; exact quiet_same (pc.out _)))
        go_wp2_with fail
        go_roundw
        case rel => exact ⟨k + 1, by omega, by go_num, int_eq (by have := E1.out; omega), int_eq (by have := E2.out; omega), int_eq (by have := E3.out; omega), int_eq (by have := E4.out; omega), int_eq (by have := E5.out; omega), D.out.drewN _, NX.out⟩
        case measure => simp [intOf]; omega
    · obtain rfl : k = len := by omega
      have WR := D.out.wds HW.out
      have ps := psum_any wr A k cap f WR hcap
      have en := edges_end f WR.1 k (by omega) SM.out
      have sl : sumW (Lf f k) < 2 ^ 64 := sum_lt _ (by intro x hx; unfold Lf at hx; rw [List.mem_map] at hx; obtain ⟨i, _, rfl⟩ := hx; exact WR.1 i)
      have rk := fun w => rKind_any (sumW (Lf f k)) sl w
      clear WR sl SM HL HT HW
      have hk0 : (0 : Int) ≤ k := by omega
      generalize kindI (sumW (Lf f k)) = kS at *
      generalize sgn (sumW (Lf f k)) = sS at *
      generalize ((sumW (Lf f k) : Nat) : Int) = S at *
      generalize ((cnt pNan f k : Nat) : Int) = n at *
      generalize ((cnt pUp f k : Nat) : Int) = u at *
      generalize ((cnt pDown f k : Nat) : Int) = d at *
      generalize ((cnt pZero f k : Nat) : Int) = z at *
      generalize ((cnt pMinus f k : Nat) : Int) = m at *
      unfold Ends at en
      rcases en with ⟨a1, rfl⟩ | ⟨rfl, a1, a2, rfl⟩ | ⟨rfl, a1, rfl, rfl⟩ | ⟨rfl, rfl, a1, rfl⟩ | ⟨rfl, rfl, rfl, a1, a2, a3, rfl⟩ | ⟨rfl, rfl, rfl, a1, a2, a3, rfl⟩ | ⟨rfl, rfl, rfl, a1, a2⟩ | ⟨rfl, rfl, rfl, a1, a2, a3⟩
      · go_wp2_with fail
        refine ps.mono ?_
        rintro e w5 ⟨rfl, n5, rfl⟩
        go_wp2_with fail
        refine (aw _).mono ?_
        rintro e w6 ⟨rfl, b6⟩
        have B6 := Lib.hid ((D.out.drewN _).mono b6)
        clear b6
        go_wp2_with fail
        go_ret
        exact ⟨rfl, B6.out⟩
      · go_wp2_with fail
        refine ps.mono ?_
        rintro e w5 ⟨rfl, n5, rfl⟩
        go_wp2_with fail
        refine (aw _).mono ?_
        rintro e w6 ⟨rfl, b6⟩
        have B6 := Lib.hid ((D.out.drewN _).mono b6)
        clear b6
        go_wp2_with fail
        go_ret
        exact ⟨rfl, B6.out⟩
      · go_wp2_with fail
        refine ps.mono ?_
        rintro e w5 ⟨rfl, n5, rfl⟩
        go_wp2_with fail
        refine (aw _).mono ?_
        rintro e w6 ⟨rfl, b6⟩
        have B6 := Lib.hid ((D.out.drewN _).mono b6)
        clear b6
        go_wp2_with fail
        go_ret
        exact ⟨rfl, B6.out⟩
      · go_wp2_with fail
        refine ps.mono ?_
        rintro e w5 ⟨rfl, n5, rfl⟩
        go_wp2_with fail
        refine (aw _).mono ?_
        rintro e w6 ⟨rfl, b6⟩
        have B6 := Lib.hid ((D.out.drewN _).mono b6)
        clear b6
        go_wp2_with fail
        go_ret
        exact ⟨rfl, B6.out⟩
      · subst a2 a3
        go_wp2_with fail
        refine ps.mono ?_
        rintro e w5 ⟨rfl, n5, rfl⟩
        go_wp2_with fail
        refine (aw _).mono ?_
        rintro e w6 ⟨rfl, b6⟩
        have B6 := Lib.hid ((D.out.drewN _).mono b6)
        clear b6
        go_wp2_with fail
        go_ret
        exact ⟨rfl, B6.out⟩
      · subst a2
        have a4 : (m == (k : Int)) = false := by rw [beq_eq_false_iff_ne]; exact a3
        clear a3
        go_wp2_with fail
        refine ps.mono ?_
        rintro e w5 ⟨rfl, n5, rfl⟩
        go_wp2_with fail
        refine (aw _).mono ?_
        rintro e w6 ⟨rfl, b6⟩
        have B6 := Lib.hid ((D.out.drewN _).mono b6)
        clear b6
        go_wp2_with fail
        go_ret
        exact ⟨rfl, B6.out⟩
      · go_wp2_with fail
        refine ps.mono ?_
        rintro e w5 ⟨rfl, n5, rfl⟩
        go_wp2_with fail
        refine (rk _).mono ?_
        rintro e w' ⟨rfl, rfl⟩
        go_wp2_with fail
        refine (aw _).mono ?_
        rintro e w6 ⟨rfl, b6⟩
        have B6 := Lib.hid ((D.out.drewN _).mono b6)
        clear b6
        go_wp2_with fail
        go_ret
        exact ⟨rfl, B6.out⟩
      · have a4 : (z == (k : Int)) = false := by rw [beq_eq_false_iff_ne]; exact a2
        clear a2
        go_wp2_with fail
        refine ps.mono ?_
        rintro e w5 ⟨rfl, n5, rfl⟩
        go_wp2_with fail
        refine (rk _).mono ?_
        rintro e w' ⟨rfl, rfl⟩
        go_wp2_with fail
        refine (aw _).mono ?_
        rintro e w6 ⟨rfl, b6⟩
        have B6 := Lib.hid ((D.out.drewN _).mono b6)
        clear b6
        go_wp2_with fail
        go_ret
        exact ⟨rfl, B6.out⟩
end Go.Proofs.Ythhlgdjpopdboaa
