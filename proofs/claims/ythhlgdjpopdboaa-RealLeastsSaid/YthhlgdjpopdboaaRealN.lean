/- The walk of the statement on sums with NaNs, infinities and zeros. -/
import Derived.Test.YthhlgdjpopdboaaRealOpen
namespace Go.Proofs.Ythhlgdjpopdboaa
open Go.RowKit FloatPlain Ieee

def cnt (p : Nat → Bool) (f : Nat → Nat) (k : Nat) : Nat := (Lf f k).countP p
theorem cnt_succ (p : Nat → Bool) (f : Nat → Nat) (k : Nat) : cnt p f (k + 1) = cnt p f k + (if p (f k) then 1 else 0) := by
  unfold cnt Lf
  rw [List.range_succ, List.map_append, List.countP_append]
  simp [List.countP_cons]
theorem cnt_le (p : Nat → Bool) (f : Nat → Nat) (k : Nat) : cnt p f k ≤ k := by
  have := List.countP_le_length (p := p) (l := Lf f k)
  unfold cnt; simpa [Lf] using this
def pNan (x : Nat) : Bool := decide (inf < rung x)
def pUp (x : Nat) : Bool := decide (rung x = inf) && !sgn x
def pDown (x : Nat) : Bool := decide (rung x = inf) && sgn x
def pZero (x : Nat) : Bool := decide (rung x = 0)
def pMinus (x : Nat) : Bool := decide (rung x = 0) && sgn x

theorem key_least (f : Nat → Nat) (n : Nat) : ∀ i, i < n → key (leastN (Lf f n)) ≤ key (f i) := by
  induction n with
  | zero => intro i h; omega
  | succ n ih =>
    intro i hi
    rw [least_Lf]
    unfold stepL
    split
    · rename_i h
      rw [cmpI_lt] at h
      by_cases e : i = n
      · subst e; omega
      · have := ih i (by omega); omega
    · rename_i h
      have h' := fun e => h (cmpI_lt.2 e)
      by_cases e : i = n
      · subst e
        rcases Nat.lt_or_ge (key (f i)) (key (leastN (Lf f i))) with k | k
        · exact absurd k h'
        · exact k
      · exact ih i (by omega)

/-- how a list's sum ends -/
def Ends (S n u d z m len : Int) (kS : Int) : Prop :=
  (0 < n ∧ S = 9221120237041090560) ∨ (n = 0 ∧ 0 < u ∧ 0 < d ∧ S = 9221120237041090560) ∨ (n = 0 ∧ 0 < u ∧ d = 0 ∧ S = 9218868437227405312) ∨ (n = 0 ∧ u = 0 ∧ 0 < d ∧ S = 18442240474082181120) ∨
  (n = 0 ∧ u = 0 ∧ d = 0 ∧ 0 < len ∧ z = len ∧ m = len ∧ S = 9223372036854775808) ∨ (n = 0 ∧ u = 0 ∧ d = 0 ∧ 0 < len ∧ z = len ∧ ¬ m = len ∧ S = 0) ∨
  (n = 0 ∧ u = 0 ∧ d = 0 ∧ ¬ 0 < len ∧ 2 ≤ kS) ∨ (n = 0 ∧ u = 0 ∧ d = 0 ∧ 0 < len ∧ ¬ z = len ∧ 2 ≤ kS)
theorem kind_fin {r : Nat} (h : rung r < inf) : 2 ≤ kindI r := by
  unfold kindI
  rw [if_neg (by omega), if_neg (by omega)]
  split
  · decide
  · split <;> decide
theorem edges_end (f : Nat → Nat) (hf : ∀ i, f i < 2 ^ 64) (len : Nat) (hl : len ≤ 100) (hs : ∀ i, i < len → rung (f i) < inf → V (rung (f i)) ≤ B) :
    Ends (sumW (Lf f len) : Nat) (cnt pNan f len : Nat) (cnt pUp f len : Nat) (cnt pDown f len : Nat) (cnt pZero f len : Nat) (cnt pMinus f len : Nat) len (kindI (sumW (Lf f len))) := by
  by_cases h0 : len = 0
  · subst h0
    refine .inr (.inr (.inr (.inr (.inr (.inr (.inl ⟨rfl, rfl, rfl, by omega, ?_⟩))))))
    show 2 ≤ kindI 0
    decide
  have memL : ∀ x, x ∈ Lf f len ↔ ∃ i, i < len ∧ f i = x := by
    intro x; unfold Lf; simp
  have hlen : (Lf f len).length = len := by simp [Lf]
  have hsm : ∀ y ∈ Lf f len, rung y < inf → V (rung y) ≤ B := by
    intro y hy; obtain ⟨i, hi, rfl⟩ := (memL y).1 hy; exact hs i hi
  have SS : Sums (Lf f len) (acc (Lf f len)) := by
    cases hL : Lf f len with
    | nil => rw [hL] at hlen; simp at hlen; omega
    | cons x r =>
      rw [hL] at hlen hsm
      simp at hlen
      have hx : x < 2 ^ 64 := by
        obtain ⟨i, _, e⟩ := (memL x).1 (by rw [hL]; simp)
        rw [← e]; exact hf i
      exact sums_all x r (by omega) hx hsm
  have pos : ∀ p : Nat → Bool, 0 < cnt p f len ↔ ∃ x ∈ Lf f len, p x = true := fun p => List.countP_pos_iff
  have all : ∀ p : Nat → Bool, cnt p f len = len ↔ ∀ x ∈ Lf f len, p x = true := fun p => by
    have := List.countP_eq_length (p := p) (l := Lf f len)
    rw [hlen] at this; exact this
  have pN := pos pNan
  have pU := pos pUp
  have pD := pos pDown
  have aZ := all pZero
  have aM := all pMinus
  have sw : ∀ r, acc (Lf f len) = some r → sumW (Lf f len) = r := fun r h => by unfold sumW; rw [h]
  have sn : acc (Lf f len) = none → sumW (Lf f len) = NAN := fun h => by unfold sumW; rw [h]
  unfold Ends
  by_cases hn : 0 < cnt pNan f len
  · left
    refine ⟨by omega, ?_⟩
    obtain ⟨x, hx, h⟩ := pN.1 hn
    rw [sn (SS.nan (.inl ⟨x, hx, by simpa [pNan] using h⟩))]; rfl
  have hnn : ∀ x ∈ Lf f len, rung x ≤ inf := fun x hx => by
    rcases Nat.lt_or_ge inf (rung x) with k | k
    · exact absurd (pN.2 ⟨x, hx, by simpa [pNan] using k⟩) hn
    · exact k
  by_cases hu : 0 < cnt pUp f len
  · obtain ⟨x, hx, h⟩ := pU.1 hu
    have h : rung x = inf ∧ sgn x = false := by simpa [pUp] using h
    by_cases hd : 0 < cnt pDown f len
    · obtain ⟨y, hy, h'⟩ := pD.1 hd
      have h' : rung y = inf ∧ sgn y = true := by simpa [pDown] using h'
      right; left
      refine ⟨by omega, by omega, by omega, ?_⟩
      rw [sn (SS.nan (.inr ⟨⟨x, hx, h⟩, y, hy, h'⟩))]; rfl
    · right; right; left
      refine ⟨by omega, by omega, by omega, ?_⟩
      rw [sw _ (SS.infs false hnn ⟨x, hx, h⟩ fun y hy hi => by
        cases hg : sgn y
        · rfl
        · exact absurd (pD.2 ⟨y, hy, by simp [pDown, hi, hg]⟩) hd)]
      rfl
  by_cases hd : 0 < cnt pDown f len
  · obtain ⟨y, hy, h'⟩ := pD.1 hd
    have h' : rung y = inf ∧ sgn y = true := by simpa [pDown] using h'
    right; right; right; left
    refine ⟨by omega, by omega, by omega, ?_⟩
    rw [sw _ (SS.infs true hnn ⟨y, hy, h'⟩ fun x hx hi => by
      cases hg : sgn x
      · exact absurd (pU.2 ⟨x, hx, by simp [pUp, hi, hg]⟩) hu
      · rfl)]
    rfl
  have hfin : ∀ x ∈ Lf f len, rung x < inf := fun x hx => by
    have := hnn x hx
    rcases Nat.lt_or_ge (rung x) inf with k | k
    · exact k
    · have hi : rung x = inf := by omega
      cases hg : sgn x
      · exact absurd (pU.2 ⟨x, hx, by simp [pUp, hi, hg]⟩) hu
      · exact absurd (pD.2 ⟨x, hx, by simp [pDown, hi, hg]⟩) hd
  obtain ⟨r, hr, hr64, hri, _, hz⟩ := SS.fin hfin
  rw [sw r hr]
  by_cases hzz : cnt pZero f len = len
  · have h0' := aZ.1 hzz
    obtain ⟨e0, eS⟩ := hz fun x hx => by simpa [pZero] using h0' x hx
    right; right; right; right
    by_cases hm : cnt pMinus f len = len
    · left
      refine ⟨by omega, by omega, by omega, by omega, by omega, by omega, ?_⟩
      have : sgn r = true := eS.2 fun x hx => by
        have := aM.1 hm x hx
        simp only [pMinus, Bool.and_eq_true] at this
        exact this.2
      have := word_rung hr64
      rw [e0, ‹sgn r = true›] at this
      rw [← this]; rfl
    · right; left
      refine ⟨by omega, by omega, by omega, by omega, by omega, by omega, ?_⟩
      have hns : sgn r = false := by
        cases hg : sgn r
        · rfl
        · exfalso
          refine hm (aM.2 fun x hx => ?_)
          have h1 := eS.1 hg x hx
          have h2 := h0' x hx
          simp only [pZero] at h2
          simp [pMinus, h1]
          simpa using h2
      have := word_rung hr64
      rw [e0, hns] at this
      rw [← this]; rfl
  · right; right; right; right; right; right; right
    exact ⟨by omega, by omega, by omega, by omega, by omega, kind_fin hri⟩
end Go.Proofs.Ythhlgdjpopdboaa
