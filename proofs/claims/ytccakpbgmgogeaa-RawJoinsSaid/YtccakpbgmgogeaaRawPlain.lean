/- Plain facts on scripts and their pieces: no program in sight. -/
namespace RawPlain

def pieces : List UInt8 → List (List UInt8)
  | [] => []
  | n :: t => t.take n.toNat :: pieces (t.drop n.toNat)
termination_by s => s.length
decreasing_by simp; omega
def whole : List UInt8 → Bool
  | [] => true
  | n :: t => decide (n.toNat ≤ t.length) && whole (t.drop n.toNat)
termination_by s => s.length
decreasing_by simp; omega
def enc (p : List UInt8) : List UInt8 := UInt8.ofNat p.length :: p
def join (l : List (List UInt8)) : List UInt8 := l.flatMap enc
def fits (l : List (List UInt8)) : Prop := ∀ p ∈ l, p.length ≤ 255

theorem pieces_nil : pieces [] = [] := by rw [pieces]
theorem pieces_cons (n : UInt8) (t : List UInt8) : pieces (n :: t) = t.take n.toNat :: pieces (t.drop n.toNat) := by rw [pieces]
theorem whole_nil : whole [] = true := by rw [whole]
theorem whole_cons (n : UInt8) (t : List UInt8) : whole (n :: t) = (decide (n.toNat ≤ t.length) && whole (t.drop n.toNat)) := by rw [whole]

theorem ofNat_len {p : List UInt8} (h : p.length ≤ 255) : (UInt8.ofNat p.length).toNat = p.length := by
  rw [UInt8.toNat_ofNat']; exact Nat.mod_eq_of_lt (by omega)

/-- a piece ahead of a script -/
theorem pieces_enc {p : List UInt8} (h : p.length ≤ 255) (s : List UInt8) : pieces (enc p ++ s) = p :: pieces s := by
  show pieces (UInt8.ofNat p.length :: (p ++ s)) = _
  rw [pieces_cons, ofNat_len h]
  simp
theorem whole_enc {p : List UInt8} (h : p.length ≤ 255) (s : List UInt8) : whole (enc p ++ s) = whole s := by
  show whole (UInt8.ofNat p.length :: (p ++ s)) = _
  rw [whole_cons, ofNat_len h]
  simp
theorem pieces_join {l : List (List UInt8)} (h : fits l) (s : List UInt8) : pieces (join l ++ s) = l ++ pieces s := by
  induction l with
  | nil => rfl
  | cons p l ih =>
    show pieces (enc p ++ join l ++ s) = _
    rw [List.append_assoc, pieces_enc (h p (by simp)), ih (fun q hq => h q (by simp [hq]))]; rfl
theorem whole_join {l : List (List UInt8)} (h : fits l) : whole (join l) = true := by
  induction l with
  | nil => exact whole_nil
  | cons p l ih =>
    show whole (enc p ++ join l) = _
    rw [whole_enc (h p (by simp)), ih (fun q hq => h q (by simp [hq]))]
theorem pieces_join' {l : List (List UInt8)} (h : fits l) : pieces (join l) = l := by
  have := pieces_join h []
  rw [List.append_nil, pieces_nil, List.append_nil] at this
  exact this

/-- induction over a script by its pieces -/
theorem script_ind {Q : List UInt8 → Prop} (h0 : Q []) (h1 : ∀ n t, Q (t.drop n.toNat) → Q (n :: t)) : ∀ s, Q s := by
  intro s
  induction hk : s.length using Nat.strongRecOn generalizing s with
  | _ k ih =>
    cases s with
    | nil => exact h0
    | cons n t => exact h1 n t (ih (t.drop n.toNat).length (by simp at hk ⊢; omega) _ rfl)

theorem u8_lt (n : UInt8) : n.toNat < 256 := n.toNat_lt

theorem pieces_fit (s : List UInt8) : fits (pieces s) := by
  refine script_ind (Q := fun s => fits (pieces s)) (by rw [pieces_nil]; intro p hp; cases hp) (fun n t ih => ?_) s
  rw [pieces_cons]
  intro p hp
  rcases List.mem_cons.1 hp with rfl | hp
  · have := u8_lt n
    simp; omega
  · exact ih p hp
theorem pieces_size (s : List UInt8) : (pieces s).length + (pieces s).flatten.length = s.length := by
  refine script_ind (Q := fun s => (pieces s).length + (pieces s).flatten.length = s.length) (by rw [pieces_nil]; rfl) (fun n t ih => ?_) s
  rw [pieces_cons]
  simp only [List.length_cons, List.flatten_cons, List.length_append, List.length_take, List.length_drop] at ih ⊢
  omega
theorem join_pieces (s : List UInt8) : (join (pieces s) = s) ↔ whole s = true := by
  refine script_ind (Q := fun s => (join (pieces s) = s) ↔ whole s = true) (by rw [pieces_nil, whole_nil]; exact ⟨fun _ => rfl, fun _ => rfl⟩) (fun n t ih => ?_) s
  rw [pieces_cons, whole_cons, Bool.and_eq_true, decide_eq_true_iff, ← ih]
  have hn := u8_lt n
  have hlen : (t.take n.toNat).length ≤ 255 := by simp; omega
  show enc (t.take n.toNat) ++ join (pieces (t.drop n.toNat)) = n :: t ↔ _
  show UInt8.ofNat (t.take n.toNat).length :: (t.take n.toNat ++ join (pieces (t.drop n.toNat))) = n :: t ↔ _
  constructor
  · intro h
    injection h with h1 h2
    have h3 : (t.take n.toNat).length = n.toNat := by rw [← ofNat_len hlen, h1]
    have h4 : n.toNat ≤ t.length := by simp at h3; omega
    refine ⟨h4, ?_⟩
    have := congrArg (List.drop n.toNat) h2
    rwa [List.drop_append_of_le_length (by simp; omega), List.drop_take, Nat.sub_self, List.take_zero, List.nil_append] at this
  · rintro ⟨h1, h2⟩
    have h3 : (t.take n.toNat).length = n.toNat := by simp; omega
    rw [h3, h2, List.take_append_drop, UInt8.ofNat_toNat]

end RawPlain
