/- Plain facts on sums with NaNs, infinities and zeros: no program in sight. -/
import Derived.Test.YthhlgdjpopdboaaFloatSum
namespace FloatPlain
open Ieee

def B : Nat := pw 1975
theorem V_small_k (r k : Nat) (hk : k = 1975) (h : r / 2 ^ 52 ≤ 1923) : V r ≤ pw k := by
  unfold V pw
  have hm := mag_lt r
  have hu : up r ≤ 1922 := by unfold up; split <;> omega
  have h1 : mag r * 2 ^ up r ≤ 2 ^ 53 * 2 ^ up r := Nat.mul_le_mul_right _ (Nat.le_of_lt hm)
  have h2 : 2 ^ 53 * 2 ^ up r ≤ 2 ^ k := by rw [← Nat.pow_add]; exact Nat.pow_le_pow_right (by omega) (by omega)
  omega
theorem V_small {r : Nat} (h : r / 2 ^ 52 ≤ 1923) : V r ≤ B := V_small_k r 1975 rfl h
theorem R_pow (k : Nat) (hk : 52 ≤ k) : R (pw k) = (k - 52) * 2 ^ 52 + 2 ^ 52 := by
  have := R_int k (M := 1) (by omega) hk
  rw [Nat.one_mul] at this
  have hl : Nat.log2 1 = 0 := by decide
  unfold pw
  rw [this, hl, Nat.zero_add, if_pos (by omega), Nat.sub_zero, Nat.one_mul]
theorem R_small_k (c k N : Nat) (hk : k = 1975) (hc : c ≤ 128) (hN : N ≤ c * pw k) : R N < inf ∧ V (R N) ≤ c * pw k := by
  constructor
  · have h1 : N ≤ pw (7 + k) := by
      rw [pw_add]
      exact Nat.le_trans hN (Nat.mul_le_mul_right _ (by show c ≤ 2 ^ 7; omega))
    have h2 := R_mono h1
    rw [R_pow _ (by omega)] at h2
    unfold inf; omega
  · have e := V_R_exact c k (by omega)
    have : V (R N) ≤ V (R (c * 2 ^ k)) := V_mono (R_mono hN)
    rw [e] at this
    exact this
theorem R_small {c N : Nat} (hc : c ≤ 128) (hN : N ≤ c * B) : R N < inf ∧ V (R N) ≤ c * B := R_small_k c 1975 N rfl hc hN

def isInfB (neg : Bool) (w : Nat) : Bool := decide (rung w = inf) && (sgn w == neg)
def isZ (w : Nat) : Bool := decide (rung w = 0)

/-- what is known of a sum of the words p -/
structure Sums (p : List Nat) (s : Option Nat) : Prop where
  nan : (∃ x ∈ p, inf < rung x) ∨ ((∃ x ∈ p, rung x = inf ∧ sgn x = false) ∧ ∃ x ∈ p, rung x = inf ∧ sgn x = true) → s = none
  infs : ∀ neg, (∀ x ∈ p, rung x ≤ inf) → (∃ x ∈ p, rung x = inf ∧ sgn x = neg) → (∀ x ∈ p, rung x = inf → sgn x = neg) → s = some (word neg inf)
  fin : (∀ x ∈ p, rung x < inf) → ∃ r, s = some r ∧ r < 2 ^ 64 ∧ rung r < inf ∧ V (rung r) ≤ p.length * B ∧ ((∀ x ∈ p, rung x = 0) → rung r = 0 ∧ (sgn r = true ↔ ∀ x ∈ p, sgn x = true))

theorem inf_lt63 : inf < 2 ^ 63 := by decide
theorem rung_winf (neg : Bool) : rung (word neg inf) = inf := rung_word neg inf_lt63
theorem sgn_winf (neg : Bool) : sgn (word neg inf) = neg := sgn_word neg inf_lt63
theorem sv_abs (w : Nat) : (sv w).natAbs = V (rung w) := by unfold sv; split <;> omega

theorem sums_one {x : Nat} (hx : x < 2 ^ 64) (hs : rung x < inf → V (rung x) ≤ B) : Sums [x] (start x) := by
  refine ⟨?_, ?_, ?_⟩
  · rintro (⟨y, hy, h⟩ | ⟨⟨y, hy, h, h'⟩, z, hz, k, k'⟩)
    · simp at hy; subst hy; exact start_nan h
    · simp at hy hz; subst hy hz; rw [h'] at k'; cases k'
  · rintro neg h1 ⟨y, hy, h, h'⟩ _
    simp at hy; subst hy
    rw [start_num (by omega), ← h', ← h, word_rung hx]
  · intro h
    have hr := h x (by simp)
    refine ⟨x, start_num (by omega), hx, hr, by simpa using hs hr, fun h0 => ⟨h0 x (by simp), by simp⟩⟩

theorem sums_step {p : List Nat} {s : Option Nat} {x : Nat} (hl : p.length < 128) (h : Sums p s) (hs : rung x < inf → V (rung x) ≤ B) : Sums (p ++ [x]) (addA s x) := by
  refine ⟨?_, ?_, ?_⟩
  · intro hc
    by_cases hnx : inf < rung x
    · cases s with
      | none => rfl
      | some v => exact add_nan_r _ hnx
    by_cases hold : (∃ x ∈ p, inf < rung x) ∨ ((∃ x ∈ p, rung x = inf ∧ sgn x = false) ∧ ∃ x ∈ p, rung x = inf ∧ sgn x = true)
    · rw [h.nan hold]; rfl
    -- both infinities, the last one new
    have hnan : ∀ y ∈ p, rung y ≤ inf := fun y hy => by
      rcases Nat.lt_or_ge inf (rung y) with k | k
      · exact absurd (.inl ⟨y, hy, k⟩) hold
      · exact k
    have hboth : (∃ y ∈ p ++ [x], rung y = inf ∧ sgn y = false) ∧ ∃ y ∈ p ++ [x], rung y = inf ∧ sgn y = true := by
      rcases hc with ⟨y, hy, k⟩ | hc
      · simp only [List.mem_append, List.mem_singleton] at hy
        rcases hy with hy | rfl
        · have := hnan y hy; omega
        · exact absurd k hnx
      · exact hc
    have hxi : rung x = inf := by
      obtain ⟨⟨y, hy, h1, h2⟩, z, hz, k1, k2⟩ := hboth
      simp only [List.mem_append, List.mem_singleton] at hy hz
      rcases hy with hy | rfl
      · rcases hz with hz | rfl
        · exact absurd (.inr ⟨⟨y, hy, h1, h2⟩, z, hz, k1, k2⟩) hold
        · exact k1
      · exact h1
    have hother : ∃ y ∈ p, rung y = inf ∧ sgn y = !sgn x := by
      obtain ⟨⟨y, hy, h1, h2⟩, z, hz, k1, k2⟩ := hboth
      simp only [List.mem_append, List.mem_singleton] at hy hz
      rcases hy with hy | rfl
      · rcases hz with hz | rfl
        · exact absurd (.inr ⟨⟨y, hy, h1, h2⟩, z, hz, k1, k2⟩) hold
        · exact ⟨y, hy, h1, by rw [h2, k2]; rfl⟩
      · rcases hz with hz | rfl
        · exact ⟨z, hz, k1, by rw [h2, k2]; rfl⟩
        · rw [h2] at k2; cases k2
    have hall : ∀ y ∈ p, rung y = inf → sgn y = !sgn x := by
      intro y hy k
      obtain ⟨z, hz, k1, k2⟩ := hother
      cases hsy : sgn y <;> cases hsx : sgn x <;> simp [hsx] at k2 ⊢
      · exact absurd (.inr ⟨⟨y, hy, k, hsy⟩, z, hz, k1, k2⟩) hold
      · exact absurd (.inr ⟨⟨z, hz, k1, k2⟩, y, hy, k, hsy⟩) hold
    rw [h.infs _ hnan hother hall]
    simp only [addA]
    rw [add_inf_inf (rung_winf _) hxi, sgn_winf, if_neg (by cases sgn x <;> decide)]
  · intro neg h1 h2 h3
    have hx1 : rung x ≤ inf := h1 x (by simp)
    have hp1 : ∀ y ∈ p, rung y ≤ inf := fun y hy => h1 y (by simp [hy])
    have hp3 : ∀ y ∈ p, rung y = inf → sgn y = neg := fun y hy => h3 y (by simp [hy])
    by_cases hpi : ∃ y ∈ p, rung y = inf ∧ sgn y = neg
    · rw [h.infs neg hp1 hpi hp3]
      simp only [addA]
      rcases Nat.lt_or_ge (rung x) inf with k | k
      · rw [add_inf_num (rung_winf _) k, sgn_winf]
      · have : rung x = inf := by omega
        rw [add_inf_inf (rung_winf _) this, sgn_winf, if_pos (h3 x (by simp) this).symm]
    · have hfin : ∀ y ∈ p, rung y < inf := fun y hy => by
        rcases Nat.lt_or_ge (rung y) inf with k | k
        · exact k
        · have : rung y = inf := by have := hp1 y hy; omega
          exact absurd ⟨y, hy, this, hp3 y hy this⟩ hpi
      obtain ⟨r, rfl, _, hr, _⟩ := h.fin hfin
      have hxi : rung x = inf ∧ sgn x = neg := by
        obtain ⟨y, hy, k1, k2⟩ := h2
        simp only [List.mem_append, List.mem_singleton] at hy
        rcases hy with hy | rfl
        · exact absurd ⟨y, hy, k1, k2⟩ hpi
        · exact ⟨k1, k2⟩
      simp only [addA]
      rw [add_num_inf hr hxi.1, hxi.2]
  · intro hfin
    have hx := hfin x (by simp)
    obtain ⟨r, rfl, hr64, hr, hv, hz⟩ := h.fin (fun y hy => hfin y (by simp [hy]))
    simp only [addA]
    rw [add_num hr hx]
    have hb : (sv r + sv x).natAbs ≤ (p.length + 1) * B := by
      have := sv_abs r; have := sv_abs x; have := hs hx
      rw [Nat.add_mul, Nat.one_mul]
      generalize p.length * B = X at *
      omega
    have hR := R_small (c := p.length + 1) (by omega) hb
    unfold fsum
    rw [Nat.min_eq_left (Nat.le_of_lt hR.1)]
    have hi63 := inf_lt63
    refine ⟨_, rfl, word_lt _ (by omega), by rw [rung_word _ (by omega)]; exact hR.1, by rw [rung_word _ (by omega)]; simpa using hR.2, fun h0 => ?_⟩
    have hx0 := h0 x (by simp)
    obtain ⟨hr0, hrs⟩ := hz (fun y hy => h0 y (by simp [hy]))
    have e : sv r + sv x = 0 := by rw [sv_zero.2 hr0, sv_zero.2 hx0]; rfl
    rw [e, if_pos rfl, Int.natAbs_zero, R_zero]
    refine ⟨rung_word _ (by decide), ?_⟩
    rw [sgn_word _ (by decide), Bool.and_eq_true, hrs]
    simp only [List.mem_append, List.mem_singleton]
    constructor
    · rintro ⟨a, b⟩ y (hy | rfl)
      · exact a y hy
      · exact b
    · intro a
      exact ⟨fun y hy => a y (.inl hy), a x (.inr rfl)⟩

theorem sums_all (x : Nat) (r : List Nat) (hl : r.length < 127) (hw : x < 2 ^ 64) (hs : ∀ y ∈ x :: r, rung y < inf → V (rung y) ≤ B) : Sums (x :: r) (acc (x :: r)) := by
  have main : ∀ (r p : List Nat) (s : Option Nat), p.length + r.length < 128 → Sums p s → (∀ y ∈ r, rung y < inf → V (rung y) ≤ B) → Sums (p ++ r) (r.foldl addA s) := by
    intro r
    induction r with
    | nil => intro p s _ h _; simpa using h
    | cons y r ih =>
      intro p s hl h hy
      simp only [List.length_cons] at hl
      have := ih (p ++ [y]) (addA s y) (by simp; omega) (sums_step (by omega) h (hy y (by simp))) (fun z hz => hy z (by simp [hz]))
      simpa using this
  exact main r [x] (start x) (by simp; omega) (sums_one hw (hs x (by simp))) (fun y hy => hs y (by simp [hy]))
end FloatPlain
