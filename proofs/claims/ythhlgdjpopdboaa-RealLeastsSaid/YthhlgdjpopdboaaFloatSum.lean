/- Plain facts on sums and the order of floats: no program in sight. -/
import Derived.Test.YthhlgdjpopdboaaFloatOf
namespace FloatPlain
open Ieee

def NAN : Nat := 9221120237041090560
def canon (w : Nat) : Nat := if inf < rung w then NAN else w
def key (w : Nat) : Nat := if 9223372036854775808 ≤ canon w then 18446744073709551615 - canon w else canon w + 9223372036854775808
def cmpI (a b : Nat) : Int := if key a < key b then -1 else if key b < key a then 1 else 0

theorem rung_NAN : inf < rung NAN := by decide
theorem canon_lt {w : Nat} (h : w < 2 ^ 64) : canon w < 2 ^ 64 := by unfold canon; split; decide; exact h
theorem canon_canon (w : Nat) : canon (canon w) = canon w := by
  unfold canon
  by_cases h : inf < rung w
  · rw [if_pos h, if_pos rung_NAN]
  · rw [if_neg h, if_neg h]
theorem key_inj {a b : Nat} (ha : a < 2 ^ 64) (hb : b < 2 ^ 64) : key a = key b ↔ canon a = canon b := by
  have := canon_lt ha; have := canon_lt hb
  unfold key
  constructor
  · split <;> split <;> omega
  · intro h; rw [h]
theorem cmpI_zero {a b : Nat} (ha : a < 2 ^ 64) (hb : b < 2 ^ 64) : cmpI a b = 0 ↔ canon a = canon b := by
  rw [← key_inj ha hb]; unfold cmpI; split <;> (try split) <;> omega
theorem cmpI_swap (a b : Nat) : cmpI a b = -cmpI b a := by unfold cmpI; split <;> (try split) <;> (try split) <;> omega
theorem cmpI_range (a b : Nat) : -1 ≤ cmpI a b ∧ cmpI a b ≤ 1 := by unfold cmpI; split <;> (try split) <;> omega
theorem cmpI_self (a : Nat) : cmpI a a = 0 := by unfold cmpI; simp
theorem cmpI_le {a b : Nat} : cmpI a b ≤ 0 ↔ key a ≤ key b := by unfold cmpI; split <;> (try split) <;> omega
theorem cmpI_lt {a b : Nat} : cmpI a b < 0 ↔ key a < key b := by unfold cmpI; split <;> (try split) <;> omega
theorem cmpI_pos {a b : Nat} : 0 < cmpI a b ↔ key b < key a := by unfold cmpI; split <;> (try split) <;> omega

/-- a NaN is one just if its canonical form is the NaN -/
theorem canon_nan {w : Nat} : canon w = NAN ↔ inf < rung w := by
  unfold canon
  constructor
  · intro h
    by_cases hn : inf < rung w
    · exact hn
    · rw [if_neg hn] at h; rw [h]; exact rung_NAN
  · intro h; rw [if_pos h]
theorem canon_of {w : Nat} (h : rung w ≤ inf) : canon w = w := by unfold canon; rw [if_neg (by omega)]

/-- the sign turned -/
def turn (w : Nat) : Nat := if 9223372036854775808 ≤ w then w - 9223372036854775808 else w + 9223372036854775808
theorem turn_lt {w : Nat} (h : w < 2 ^ 64) : turn w < 2 ^ 64 := by unfold turn; split <;> omega
theorem rung_turn (w : Nat) : rung (turn w) = rung w := by unfold rung turn; split <;> omega
theorem key_turn {w : Nat} (hw : w < 2 ^ 64) (h : rung w ≤ inf) : key (turn w) = 18446744073709551615 - key w := by
  have h' : rung (turn w) ≤ inf := by rw [rung_turn]; exact h
  unfold key
  rw [canon_of h, canon_of h']
  unfold turn
  split <;> split <;> omega
theorem key_lt {w : Nat} (hw : w < 2 ^ 64) : key w < 2 ^ 64 := by
  have := canon_lt hw
  unfold key; split <;> omega
theorem cmpI_turn {a b : Nat} (ha : a < 2 ^ 64) (hb : b < 2 ^ 64) (h : rung a ≤ inf) (k : rung b ≤ inf) : cmpI (turn a) (turn b) = cmpI b a := by
  have := key_lt ha; have := key_lt hb
  unfold cmpI
  rw [key_turn ha h, key_turn hb k]
  split <;> split <;> (try split) <;> (try split) <;> omega
theorem turn_inj {a b : Nat} (ha : a < 2 ^ 64) (hb : b < 2 ^ 64) : turn a = turn b ↔ a = b := by
  unfold turn; constructor
  · split <;> split <;> omega
  · intro h; rw [h]
/-- equality of floats, as a plain function -/
def eqB (a b : Nat) : Bool := !isNaN a && !isNaN b && (decide (a = b) || (decide (rung a = 0) && decide (rung b = 0)))
theorem eqB_turn {a b : Nat} (ha : a < 2 ^ 64) (hb : b < 2 ^ 64) : eqB (turn a) (turn b) = eqB a b := by
  unfold eqB isNaN
  rw [rung_turn, rung_turn]
  have : decide (turn a = turn b) = decide (a = b) := by rw [decide_eq_decide]; exact turn_inj ha hb
  rw [this]

/-! ### sums -/
/-- a sum goes on; 'none' is a NaN -/
def addA (s : Option Nat) (x : Nat) : Option Nat := match s with | none => none | some s => double.add s x
def start (x : Nat) : Option Nat := if inf < rung x then none else some x
theorem start_nan {x : Nat} (h : inf < rung x) : start x = none := if_pos h
theorem start_num {x : Nat} (h : rung x ≤ inf) : start x = some x := if_neg (by omega)
def acc (l : List Nat) : Option Nat := match l with | [] => some 0 | x :: r => r.foldl addA (start x)
def sumW (l : List Nat) : Nat := match acc l with | none => NAN | some r => r
/-- bits that stand for it -/
def Stands (b : Nat) (s : Option Nat) : Prop := b < 2 ^ 64 ∧ match s with | none => inf < rung b | some r => b = r ∧ rung b ≤ inf
theorem Stands.canon {b : Nat} {s : Option Nat} (h : Stands b s) : canon b = (match s with | none => NAN | some r => r) := by
  obtain ⟨_, h⟩ := h
  cases s with
  | none => exact canon_nan.2 h
  | some r => rw [canon_of h.2]; exact h.1
theorem stands_start {x : Nat} (h : x < 2 ^ 64) : Stands x (start x) := by
  by_cases hn : inf < rung x
  · rw [start_nan hn]; exact ⟨h, hn⟩
  · rw [start_num (by omega)]; exact ⟨h, rfl, by omega⟩
theorem add_ok {x y r : Nat} (h : double.add x y = some r) : r < 2 ^ 64 ∧ rung r ≤ inf := by
  have hi : inf < 2 ^ 63 := by decide
  have key : ∀ (neg : Bool) (k : Nat), k ≤ inf → word neg k < 2 ^ 64 ∧ rung (word neg k) ≤ inf := fun neg k hk =>
    ⟨word_lt _ (by omega), by rw [rung_word _ (by omega)]; exact hk⟩
  rcases read_cases x with hx | hx | hx
  · rcases read_cases y with hy | hy | hy
    · rw [add_num hx hy] at h
      cases h
      exact key _ _ (Nat.min_le_right _ _)
    · rw [add_num_inf hx hy] at h; cases h; exact key _ _ (Nat.le_refl _)
    · rw [add_nan_r _ hy] at h; cases h
  · rcases read_cases y with hy | hy | hy
    · rw [add_inf_num hx hy] at h; cases h; exact key _ _ (Nat.le_refl _)
    · rw [add_inf_inf hx hy] at h
      split at h
      · cases h; exact key _ _ (Nat.le_refl _)
      · cases h
    · rw [add_nan_r _ hy] at h; cases h
  · rw [add_nan_l _ hx] at h; cases h
/-- one step: valid -/
theorem stands_add {b : Nat} {s : Option Nat} {x r : Nat} (h : Stands b s) (hr : double.add b x = some r) : Stands r (addA s x) := by
  cases s with
  | none => rw [add_nan_l _ h.2] at hr; cases hr
  | some v =>
    obtain ⟨hb, e, _⟩ := h
    subst e
    have := add_ok hr
    simp [Stands, addA, hr, this]
/-- one step: a NaN comes of it -/
theorem stands_nan {b : Nat} {s : Option Nat} {x r : Nat} (h : Stands b s) (hn : double.add b x = none) (hr : r < 2 ^ 64) (hr' : inf < rung r) : Stands r (addA s x) := by
  cases s with
  | none => exact ⟨hr, hr'⟩
  | some v =>
    obtain ⟨hb, e, _⟩ := h
    subst e
    simp [Stands, addA, hn, hr, hr']

theorem acc_snoc (x : Nat) (r : List Nat) (y : Nat) : acc (x :: r ++ [y]) = addA (acc (x :: r)) y := by
  simp [acc, List.foldl_append]

/-- w and +0 -/
theorem fsum_zero {w : Nat} (hw : w < 2 ^ 64) (h : rung w < inf) : fsum (sgn w && false) (sv w + 0) = if w = 9223372036854775808 then 0 else w := by
  rw [Int.add_zero, Bool.and_false]
  unfold fsum
  by_cases h0 : rung w = 0
  · have e : sv w = 0 := sv_zero.2 h0
    rw [e]
    simp only [if_true, Int.natAbs_zero, R_zero]
    have : w = 0 ∨ w = 9223372036854775808 := by unfold rung at h0; omega
    rcases this with h | h <;> subst h <;> decide
  · have e : sv w ≠ 0 := fun e => h0 (sv_zero.1 e)
    have hv : V (rung w) ≠ 0 := fun e => h0 (V_eq_zero e)
    have ha : (sv w).natAbs = V (rung w) := by unfold sv; split <;> omega
    have hs : decide (sv w < 0) = sgn w := by
      unfold sv
      cases sgn w
      · simp
      · simp; omega
    rw [if_neg e, ha, R_V, Nat.min_eq_left (Nat.le_of_lt h), hs, word_rung hw, if_neg]
    intro hh; rw [hh] at h0; exact h0 (by decide)
theorem sum_zero {w : Nat} (hw : w < 2 ^ 64) : sumW [w, 0] = if inf < rung w then NAN else if w = 9223372036854775808 then 0 else w := by
  have h0 : rung 0 < inf := by decide
  have g0 : sgn 0 = false := by decide
  have s0 : sv 0 = 0 := sv_zero.2 (by decide)
  unfold sumW
  simp only [acc, List.foldl_cons, List.foldl_nil]
  rcases read_cases w with h | h | h
  · rw [start_num (by omega), if_neg (by omega)]
    simp only [addA]
    rw [add_num h h0, g0, s0, fsum_zero hw h]
  · rw [start_num (by omega), if_neg (by omega)]
    simp only [addA]
    rw [add_inf_num h h0]
    have : w ≠ 9223372036854775808 := fun e => by rw [e] at h; revert h; decide
    rw [if_neg this, ← h]
    exact word_rung hw
  · rw [start_nan h, if_pos h]; rfl

/-- a sum with a NaN -/
theorem foldl_none (l : List Nat) : l.foldl addA none = none := by
  induction l with
  | nil => rfl
  | cons x r ih => exact ih
theorem sum_two_nan {a b : Nat} (h : inf < rung a ∨ inf < rung b) : sumW [a, b] = NAN := by
  unfold sumW
  simp only [acc, List.foldl_cons, List.foldl_nil]
  by_cases ha : inf < rung a
  · rw [start_nan ha]; rfl
  · have hb : inf < rung b := h.resolve_left ha
    rw [start_num (by omega)]
    simp only [addA]
    rw [add_nan_r _ hb]

/-- whole numbers -/
theorem acc_whole (l : List Int) (hl : l.length ≤ 100) (h : ∀ x ∈ l, x.natAbs < 2 ^ 40) : acc (l.map ofW) = some (ofW l.sum) ∧ l.sum.natAbs < 2 ^ 47 := by
  have main : ∀ (r : List Int) (s : Int) (c : Nat), c + r.length ≤ 100 → s.natAbs ≤ c * 2 ^ 40 → (∀ x ∈ r, x.natAbs < 2 ^ 40) →
      (r.map ofW).foldl addA (some (ofW s)) = some (ofW (s + r.sum)) ∧ (s + r.sum).natAbs ≤ 100 * 2 ^ 40 := by
    intro r
    induction r with
    | nil => intro s c hc hs _; simp at hc ⊢; omega
    | cons x r ih =>
      intro s c hc hs hx
      have h1 := hx x (by simp)
      simp only [List.length_cons] at hc
      have := ih (s + x) (c + 1) (by omega) (by omega) (fun y hy => hx y (by simp [hy]))
      simp only [List.map_cons, List.foldl_cons, List.sum_cons, addA]
      rw [add_ofW (by omega) (by omega), ← Int.add_assoc]
      exact this
  cases l with
  | nil => exact ⟨by decide, by decide⟩
  | cons x r =>
    have hx := h x (by simp)
    have hst : start (ofW x) = some (ofW x) := by
      have := rung_ofW (n := x) (by omega)
      have hl := wholeR_le (M := x.natAbs) (by omega)
      exact start_num (by omega)
    have := main r x 1 (by simpa [Nat.add_comm] using hl) (by omega) (fun y hy => h y (by simp [hy]))
    simp only [acc, List.map_cons, hst, List.sum_cons]
    exact ⟨this.1, by omega⟩
end FloatPlain
