/- Plain facts on numbers as bytes, and on entries as bytes: no program in sight. -/
import Derived.Test.YtccakpbgmgogeaaRawPlain
namespace RawPlain

theorem snoc_ind {α : Type} {Q : List α → Prop} (h0 : Q []) (h1 : ∀ l c, Q l → Q (l ++ [c])) : ∀ l, Q l := by
  intro l
  have : ∀ r : List α, Q r.reverse := by
    intro r
    induction r with
    | nil => exact h0
    | cons c r ih => rw [List.reverse_cons]; exact h1 _ _ ih
  rw [← List.reverse_reverse l]
  exact this _
/-- a number's bytes, so many, the highest first -/
def be : Nat → Nat → List UInt8
  | 0, _ => []
  | m + 1, n => be m (n / 256) ++ [UInt8.ofNat (n % 256)]
/-- the number of bytes -/
def num (l : List UInt8) : Nat := l.foldl (fun n c => 256 * n + c.toNat) 0

theorem be_length : ∀ (m n : Nat), (be m n).length = m
  | 0, _ => rfl
  | m + 1, n => by show (be m (n / 256) ++ _).length = _; rw [List.length_append, be_length m]; rfl
theorem num_nil : num [] = 0 := rfl
theorem num_snoc (l : List UInt8) (c : UInt8) : num (l ++ [c]) = 256 * num l + c.toNat := by unfold num; rw [List.foldl_append]; rfl
theorem num_lt (l : List UInt8) : num l < 256 ^ l.length := by
  refine snoc_ind (Q := fun l => num l < 256 ^ l.length) (by decide) (fun l c ih => ?_) l
  rw [num_snoc, List.length_append]; show _ < 256 ^ (l.length + 1); rw [Nat.pow_succ]; have := c.toNat_lt; omega
theorem u8_of (n : Nat) : (UInt8.ofNat (n % 256)).toNat = n % 256 := by
  rw [UInt8.toNat_ofNat']; omega
theorem num_be : ∀ (m n : Nat), num (be m n) = n % 256 ^ m
  | 0, n => by show 0 = _; rw [Nat.pow_zero, Nat.mod_one]
  | m + 1, n => by
    show num (be m (n / 256) ++ _) = _
    rw [num_snoc, num_be m, u8_of, Nat.pow_succ, Nat.mul_comm (256 ^ m) 256, Nat.mod_mul]
    omega
theorem be_num (l : List UInt8) : be l.length (num l) = l := by
  refine snoc_ind (Q := fun l => be l.length (num l) = l) rfl (fun l c ih => ?_) l
  rw [num_snoc, List.length_append]
  show be l.length ((256 * num l + c.toNat) / 256) ++ [UInt8.ofNat ((256 * num l + c.toNat) % 256)] = _
  have h := c.toNat_lt
  have e1 : (256 * num l + c.toNat) / 256 = num l := by omega
  have e2 : (256 * num l + c.toNat) % 256 = c.toNat := by omega
  rw [e1, e2, ih, UInt8.ofNat_toNat]
theorem be_num' {l : List UInt8} {m : Nat} (h : l.length = m) : be m (num l) = l := by rw [← h]; exact be_num l

/-- as raw's put has them -/
def bx (m n k : Nat) : List UInt8 := (List.range k).map fun j => UInt8.ofNat (n / 2 ^ (8 * (m - 1 - j)) % 256)
theorem bx_zero (m n : Nat) : bx m n 0 = [] := rfl
theorem bx_succ (m n k : Nat) : bx m n (k + 1) = bx m n k ++ [UInt8.ofNat (n / 2 ^ (8 * (m - 1 - k)) % 256)] := by unfold bx; rw [List.range_succ, List.map_append]; rfl
theorem bx_all : ∀ (m n : Nat), bx m n m = be m n
  | 0, _ => rfl
  | m + 1, n => by
    rw [bx_succ]
    show _ = be m (n / 256) ++ _
    rw [← bx_all m (n / 256)]
    have e : n / 2 ^ (8 * (m + 1 - 1 - m)) = n := by rw [show m + 1 - 1 - m = 0 from by omega]; simp
    rw [e]
    congr 1
    unfold bx
    apply List.map_congr_left
    intro j hj
    rw [List.mem_range] at hj
    have : n / 2 ^ (8 * (m + 1 - 1 - j)) = n / 256 / 2 ^ (8 * (m - 1 - j)) := by
      rw [Nat.div_div_eq_div_mul, show 8 * (m + 1 - 1 - j) = 8 + 8 * (m - 1 - j) from by omega, Nat.pow_add]
    rw [this]

/-- an entry -/
structure E where
  kind : Int
  tenant : Int
  code : Int
  h : Int
  a : Int
  b : Int
  v : Int
  worker : Int
  micro : Int
deriving DecidableEq
structure E.Wf (x : E) : Prop where
  kind0 : 0 ≤ x.kind
  kind1 : x.kind ≤ 255
  tenant0 : -9223372036854775808 ≤ x.tenant
  tenant1 : x.tenant ≤ 9223372036854775807
  code0 : 0 ≤ x.code
  code1 : x.code ≤ 255
  h0 : 0 ≤ x.h
  h1 : x.h ≤ 18446744073709551615
  a0 : -9223372036854775808 ≤ x.a
  a1 : x.a ≤ 9223372036854775807
  b0 : -9223372036854775808 ≤ x.b
  b1 : x.b ≤ 9223372036854775807
  v0 : 0 ≤ x.v
  v1 : x.v ≤ 18446744073709551615
  worker0 : -9223372036854775808 ≤ x.worker
  worker1 : x.worker ≤ 9223372036854775807
  micro0 : 0 ≤ x.micro
  micro1 : x.micro ≤ 255
def E.zero : E := ⟨0, 0, 0, 0, 0, 0, 0, 0, 0⟩

/-- the low four bytes of a number, as a number of its own -/
def lo4 (n : Int) : Nat := (n % 4294967296).toNat
/-- of four bytes, with a sign -/
def sg (n : Nat) : Int := if 2147483648 ≤ n then (n : Int) - 4294967296 else n
def four (n : Int) : Prop := -2147483648 ≤ n ∧ n < 2147483648
instance (n : Int) : Decidable (four n) := by unfold four; exact inferInstance
theorem sg_lo4 {n : Int} (h : four n) : sg (lo4 n) = n := by unfold four at h; unfold sg lo4; split <;> omega
theorem lo4_lt (n : Int) : lo4 n < 4294967296 := by unfold lo4; omega
theorem lo4_sg {n : Nat} (h : n < 4294967296) : lo4 (sg n) = n := by unfold sg lo4; split <;> omega
theorem four_sg {n : Nat} (h : n < 4294967296) : four (sg n) := by unfold sg four; split <;> omega

def isOp (x : E) : Prop := x.kind = 1 ∧ 0 ≤ x.tenant ∧ x.tenant < 256 ∧ x.worker = 0 ∧ x.micro = 0 ∧ four x.a ∧ four x.b
instance (x : E) : Decidable (isOp x) := by unfold isOp; exact inferInstance
def isStep (x : E) : Prop := x.kind = 2 ∧ 0 ≤ x.worker ∧ x.worker < 256 ∧ x.tenant = 0 ∧ x.code = 0 ∧ x.h = 0 ∧ x.a = 0 ∧ x.b = 0 ∧ x.v = 0
instance (x : E) : Decidable (isStep x) := by unfold isStep; exact inferInstance
def opB (x : E) : List UInt8 := [1, UInt8.ofNat x.tenant.toNat, UInt8.ofNat x.code.toNat] ++ be 8 x.h.toNat ++ be 4 (lo4 x.a) ++ be 4 (lo4 x.b) ++ be 8 x.v.toNat
def stepB (x : E) : List UInt8 := [2, UInt8.ofNat x.worker.toNat, UInt8.ofNat x.micro.toNat]
def putL (x : E) : Option (List UInt8) := if isOp x then some (opB x) else if isStep x then some (stepB x) else none

def opE (l : List UInt8) : E := ⟨1, (l.getD 1 0).toNat, (l.getD 2 0).toNat, num ((l.drop 3).take 8), sg (num ((l.drop 11).take 4)), sg (num ((l.drop 15).take 4)), num (l.drop 19), 0, 0⟩
def stepE (l : List UInt8) : E := ⟨2, 0, 0, 0, 0, 0, 0, (l.getD 1 0).toNat, (l.getD 2 0).toNat⟩
def getL (l : List UInt8) : Option E := if l.length = 3 ∧ l.getD 0 0 = 2 then some (stepE l) else if l.length = 27 ∧ l.getD 0 0 = 1 then some (opE l) else none

theorem len_op (x : E) : (opB x).length = 27 := by unfold opB; simp [be_length]
theorem len_step (x : E) : (stepB x).length = 3 := rfl

theorem get_op {x : E} (w : x.Wf) (h : isOp x) : getL (opB x) = some x := by
  obtain ⟨h1, h2, h3, h4, h5, h6, h7⟩ := h
  unfold getL
  rw [if_neg (by rw [len_op]; omega), if_pos ⟨len_op x, rfl⟩]
  have d : ∀ (A : List UInt8) (p q r s : List UInt8), A.length = 3 → p.length = 8 → q.length = 4 → r.length = 4 → ((A ++ p ++ q ++ r ++ s).drop 3).take 8 = p ∧ ((A ++ p ++ q ++ r ++ s).drop 11).take 4 = q ∧ ((A ++ p ++ q ++ r ++ s).drop 15).take 4 = r ∧ (A ++ p ++ q ++ r ++ s).drop 19 = s := by
    intro A p q r s hA hp hq hr
    refine ⟨?_, ?_, ?_, ?_⟩ <;> simp [List.drop_append, List.take_append, hA, hp, hq, hr] <;> simp [List.drop_of_length_le, List.take_of_length_le, hA, hp, hq]
  obtain ⟨d1, d2, d3, d4⟩ := d [1, UInt8.ofNat x.tenant.toNat, UInt8.ofNat x.code.toNat] (be 8 x.h.toNat) (be 4 (lo4 x.a)) (be 4 (lo4 x.b)) (be 8 x.v.toNat) rfl (be_length _ _) (be_length _ _) (be_length _ _)
  have g1 : (opB x).getD 1 0 = UInt8.ofNat x.tenant.toNat := rfl
  have g2 : (opB x).getD 2 0 = UInt8.ofNat x.code.toNat := rfl
  unfold opE
  rw [g1, g2]
  unfold opB
  rw [d1, d2, d3, d4, num_be, num_be, num_be, num_be, Nat.mod_eq_of_lt (show lo4 x.a < 256 ^ 4 from lo4_lt _), Nat.mod_eq_of_lt (show lo4 x.b < 256 ^ 4 from lo4_lt _), sg_lo4 h6, sg_lo4 h7]
  have := w.h0; have := w.h1; have := w.v0; have := w.v1; have := w.code0; have := w.code1
  have e1 : ((UInt8.ofNat x.tenant.toNat).toNat : Int) = x.tenant := by rw [UInt8.toNat_ofNat']; omega
  have e2 : ((UInt8.ofNat x.code.toNat).toNat : Int) = x.code := by rw [UInt8.toNat_ofNat']; omega
  have e3 : ((x.h.toNat % 256 ^ 8 : Nat) : Int) = x.h := by omega
  have e4 : ((x.v.toNat % 256 ^ 8 : Nat) : Int) = x.v := by omega
  rw [e1, e2, e3, e4]
  cases x
  simp at h1 h4 h5
  subst h1 h4 h5
  rfl
theorem get_step {x : E} (w : x.Wf) (h : isStep x) : getL (stepB x) = some x := by
  obtain ⟨h1, h2, h3, h4, h5, h6, h7, h8, h9⟩ := h
  unfold getL
  rw [if_pos ⟨rfl, rfl⟩]
  have := w.micro0; have := w.micro1
  have e1 : ((UInt8.ofNat x.worker.toNat).toNat : Int) = x.worker := by rw [UInt8.toNat_ofNat']; omega
  have e2 : ((UInt8.ofNat x.micro.toNat).toNat : Int) = x.micro := by rw [UInt8.toNat_ofNat']; omega
  show some (⟨2, 0, 0, 0, 0, 0, 0, (UInt8.ofNat x.worker.toNat).toNat, (UInt8.ofNat x.micro.toNat).toNat⟩ : E) = some x
  rw [e1, e2]
  cases x
  simp at h1 h4 h5 h6 h7 h8 h9
  subst h1 h4 h5 h6 h7 h8 h9
  rfl
theorem get_put {x : E} (w : x.Wf) {a : List UInt8} (h : putL x = some a) : getL a = some x := by
  unfold putL at h
  by_cases h1 : isOp x
  · rw [if_pos h1] at h; injection h with h; subst h; exact get_op w h1
  · rw [if_neg h1] at h
    by_cases h2 : isStep x
    · rw [if_pos h2] at h; injection h with h; subst h; exact get_step w h2
    · rw [if_neg h2] at h; cases h
theorem stepE_wf (l : List UInt8) : (stepE l).Wf := by
  have := (l.getD 1 0).toNat_lt; have := (l.getD 2 0).toNat_lt
  unfold stepE
  constructor <;> simp only [] <;> omega
theorem opE_wf (l : List UInt8) (hl : l.length = 27) : (opE l).Wf := by
  have := (l.getD 1 0).toNat_lt; have := (l.getD 2 0).toNat_lt
  have b1 := num_lt ((l.drop 3).take 8)
  have b2 := num_lt ((l.drop 11).take 4)
  have b3 := num_lt ((l.drop 15).take 4)
  have b4 := num_lt (l.drop 19)
  rw [show ((l.drop 3).take 8).length = 8 from by simp; omega] at b1
  rw [show ((l.drop 11).take 4).length = 4 from by simp; omega] at b2
  rw [show ((l.drop 15).take 4).length = 4 from by simp; omega] at b3
  rw [show (l.drop 19).length = 8 from by simp; omega] at b4
  have f2 := four_sg (n := num ((l.drop 11).take 4)) b2
  have f3 := four_sg (n := num ((l.drop 15).take 4)) b3
  unfold four at f2 f3
  unfold opE
  constructor <;> simp only [] <;> omega
theorem get_wf {l : List UInt8} {y : E} (h : getL l = some y) : y.Wf := by
  unfold getL at h
  by_cases h1 : l.length = 3 ∧ l.getD 0 0 = 2
  · rw [if_pos h1] at h; injection h with h; subst h; exact stepE_wf l
  · rw [if_neg h1] at h
    by_cases h2 : l.length = 27 ∧ l.getD 0 0 = 1
    · rw [if_pos h2] at h; injection h with h; subst h; exact opE_wf l h2.1
    · rw [if_neg h2] at h; cases h
theorem u8_back (c : UInt8) : UInt8.ofNat (c.toNat : Int).toNat = c := by rw [Int.toNat_natCast, UInt8.ofNat_toNat]
theorem put_get {b : List UInt8} {y : E} (h : getL b = some y) : putL y = some b := by
  unfold getL at h
  by_cases h1 : b.length = 3 ∧ b.getD 0 0 = 2
  · rw [if_pos h1] at h; injection h with h; subst h
    obtain ⟨h1, h2⟩ := h1
    match b, h1 with
    | [x, y, z], _ =>
      have hx : x = 2 := h2
      subst hx
      unfold putL
      have := y.toNat_lt
      rw [if_neg (by rintro ⟨e, _⟩; exact absurd (show (2 : Int) = 1 from e) (by decide)), if_pos ⟨rfl, by show (0 : Int) ≤ (y.toNat : Int); omega, by show (y.toNat : Int) < 256; omega, rfl, rfl, rfl, rfl, rfl, rfl⟩]
      show some [2, UInt8.ofNat (y.toNat : Int).toNat, UInt8.ofNat (z.toNat : Int).toNat] = _
      rw [u8_back, u8_back]
  · rw [if_neg h1] at h
    by_cases h2 : b.length = 27 ∧ b.getD 0 0 = 1
    · rw [if_pos h2] at h; injection h with h; subst h
      obtain ⟨h3, h4⟩ := h2
      have b2 := num_lt ((b.drop 11).take 4)
      have b3 := num_lt ((b.drop 15).take 4)
      have l1 : ((b.drop 3).take 8).length = 8 := by simp; omega
      have l2 : ((b.drop 11).take 4).length = 4 := by simp; omega
      have l3 : ((b.drop 15).take 4).length = 4 := by simp; omega
      have l4 : (b.drop 19).length = 8 := by simp; omega
      rw [l2] at b2
      rw [l3] at b3
      unfold putL
      have := (b.getD 1 0).toNat_lt
      rw [if_pos ⟨rfl, by show (0 : Int) ≤ ((b.getD 1 0).toNat : Int); omega, by show ((b.getD 1 0).toNat : Int) < 256; omega, rfl, rfl, four_sg b2, four_sg b3⟩]
      congr 1
      show [1, UInt8.ofNat ((b.getD 1 0).toNat : Int).toNat, UInt8.ofNat ((b.getD 2 0).toNat : Int).toNat] ++ be 8 ((num ((b.drop 3).take 8) : Nat) : Int).toNat ++ be 4 (lo4 (sg (num ((b.drop 11).take 4)))) ++ be 4 (lo4 (sg (num ((b.drop 15).take 4)))) ++ be 8 ((num (b.drop 19) : Nat) : Int).toNat = b
      rw [u8_back, u8_back, Int.toNat_natCast, Int.toNat_natCast, lo4_sg b2, lo4_sg b3, be_num' l1, be_num' l2, be_num' l3, be_num' l4, ← h4]
      match b, h3 with
      | x0 :: x1 :: x2 :: r, h3 =>
        have hr : r.length = 24 := by simpa using h3
        show x0 :: x1 :: x2 :: (r.take 8 ++ (r.drop 8).take 4 ++ (r.drop 12).take 4 ++ r.drop 16) = _
        congr 3
        have e1 : r.drop 12 = (r.drop 8).drop 4 := by rw [List.drop_drop]
        have e2 : r.drop 16 = (r.drop 12).drop 4 := by rw [List.drop_drop]
        rw [e2, List.append_assoc, List.append_assoc, List.take_append_drop, e1, List.take_append_drop, List.take_append_drop]
    · rw [if_neg h2] at h; cases h

/-- what lacks a byte, or has one too many -/
theorem put_len {x : E} {a : List UInt8} (h : putL x = some a) : (a.length = 27 ∧ a.getD 0 0 = 1) ∨ (a.length = 3 ∧ a.getD 0 0 = 2) := by
  unfold putL at h
  by_cases h1 : isOp x
  · rw [if_pos h1] at h; injection h with h; subst h; exact .inl ⟨len_op x, rfl⟩
  · rw [if_neg h1] at h
    by_cases h2 : isStep x
    · rw [if_pos h2] at h; injection h with h; subst h; exact .inr ⟨rfl, rfl⟩
    · rw [if_neg h2] at h; cases h
theorem get_none {l : List UInt8} (h3 : l.length ≠ 3) (h27 : l.length ≠ 27) : getL l = none := by
  unfold getL
  rw [if_neg (fun h => h3 h.1), if_neg (fun h => h27 h.1)]
theorem get_take {x : E} {a : List UInt8} (h : putL x = some a) {k : Nat} (hk : k < a.length) : getL (a.take k) = none := by
  unfold getL
  have hl : (a.take k).length = k := by simp; omega
  have g0 : 0 < k → (a.take k).getD 0 0 = a.getD 0 0 := by
    intro h0
    rw [List.getD_eq_getElem?_getD, List.getD_eq_getElem?_getD, List.getElem?_take_of_lt h0]
  rcases put_len h with ⟨h1, h2⟩ | ⟨h1, h2⟩
  · rw [if_neg, if_neg]
    · rintro ⟨h3, h4⟩; omega
    · rintro ⟨h3, h4⟩
      rw [g0 (by omega), h2] at h4
      exact absurd h4 (by decide)
  · rw [if_neg, if_neg]
    · rintro ⟨h3, h4⟩; omega
    · rintro ⟨h3, h4⟩; omega
end RawPlain
