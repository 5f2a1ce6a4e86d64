/- Tints that are none: nil, and zero. -/
import Derived.Test.YtcckppijabajdaaTintP
namespace Go.Proofs.Ytcckppijabajdaa
open Go.RowKit

/-- a pointer to no tints -/
def NoT (w : World) (v : Value) : Prop := v = .pointer none ∨ ∃ z l, v = .pointer (some ⟨z, 0, none⟩) ∧ w.cell? ⟨z, 0, none⟩ = some l ∧ w.cell? ⟨z, 1, none⟩ = some (.int .u64 0)

theorem none_no (w : World) (v : Value) (h : NoT w v) : Calls Try.prog 18 #[v] w fun e w' => e = .returned (.bool true) ∧ w = w' := by
  rcases h with rfl | ⟨z, l, rfl, h0, h1⟩
  all_goals
    go_enter Try.func18, Try.ntmps18
    go_wp2
    go_ret
    exact ⟨rfl, rfl⟩
theorem has_no (w : World) (v : Value) (s : Int) (h : NoT w v) : Calls Try.prog 22 #[v, .int .i64 s] w fun e w' => e = .returned (.int .i64 1) ∧ w = w' := by
  have c := none_no w v h
  clear h
  go_enter Try.func22, Try.ntmps22
  go_wp2_with (go_at_call 18; refine c.mono ?_; rintro e w' ⟨rfl, rfl⟩)
  go_ret
  exact ⟨rfl, rfl⟩
theorem of_no (w : World) (v : Value) (s : Int) (h : NoT w v) : Calls Try.prog 15 #[v, .int .i64 s] w fun e w' => e = .returned (.tuple #[.int .u8 0, .int .i64 1]) ∧ w = w' := by
  have c := has_no w v s h
  clear h
  go_enter Try.func15, Try.ntmps15
  go_wp2_with (go_at_call 22; refine c.mono ?_; rintro e w' ⟨rfl, rfl⟩)
  go_ret2
  exact ⟨rfl, rfl⟩
theorem shade_none (w : World) (v : Value) (s : Int) (h : NoT w v) : Calls Try.prog 14 #[v, .int .i64 s] w fun e w' => e = .returned (.tuple #[.bool false, .int .i64 1]) ∧ w = w' := by
  have c := of_no w v s h
  clear h
  go_enter Try.func14, Try.ntmps14
  go_wp2_with (go_at_call 15; refine c.mono ?_; rintro e w' ⟨rfl, rfl⟩)
  go_ret2
  exact ⟨rfl, rfl⟩
theorem black_none (w : World) (v : Value) (s : Int) (h : NoT w v) : Calls Try.prog 11 #[v, .int .i64 s] w fun e w' => e = .returned (.int .i64 1) ∧ w = w' := by
  have c := has_no w v s h
  clear h
  go_enter Try.func11, Try.ntmps11
  go_wp2_with (go_at_call 22; refine c.mono ?_; rintro e w' ⟨rfl, rfl⟩)
  go_ret
  exact ⟨rfl, rfl⟩
theorem flip_none (w : World) (v : Value) (h : NoT w v) : Calls Try.prog 12 #[v] w fun e w' => e = .returned (.tuple #[]) ∧ w = w' := by
  have c := none_no w v h
  clear h
  go_enter Try.func12, Try.ntmps12
  go_wp2_with (go_at_call 18; refine c.mono ?_; rintro e w' ⟨rfl, rfl⟩)
  go_end0
  exact ⟨rfl, rfl⟩
theorem count_none (w : World) (v : Value) (c : Int) (h : NoT w v) : Calls Try.prog 9 #[v, .int .u8 c] w fun e w' => e = .returned (.int .i64 0) ∧ w = w' := by
  have c := none_no w v h
  clear h
  go_enter Try.func9, Try.ntmps9
  go_wp2_with (go_at_call 18; refine c.mono ?_; rintro e w' ⟨rfl, rfl⟩)
  go_ret
  exact ⟨rfl, rfl⟩

/-- all colours together -/
theorem cnt_all (l : List Int) (h : ∀ x ∈ l, 0 ≤ x ∧ x ≤ 2) : cnt l 0 + cnt l 1 + cnt l 2 = l.length := by
  induction l with
  | nil => rfl
  | cons x l ih =>
    have h1 := h x (by simp)
    have ih' := ih (fun y hy => h y (by simp [hy]))
    unfold cnt at ih' ⊢
    simp only [List.countP_cons, List.length_cons]
    have : x = 0 ∨ x = 1 ∨ x = 2 := by omega
    rcases this with rfl | rfl | rfl <;> simp <;> omega
theorem Tn.range {w : World} {p g : Nat} {cs : List Int} {m : Int} (h : Tn w p g cs m) : ∀ x ∈ cs, 0 ≤ x ∧ x ≤ 2 := by
  obtain ⟨f, last, _, _, rfl, _⟩ := h
  intro x hx
  obtain ⟨l, _, rfl⟩ := List.mem_map.1 hx
  exact col_range f l
theorem cnt_other (n : Nat) (c : Int) (h : c ≠ 0) : cnt (List.replicate n 0) c = 0 := by
  unfold cnt; rw [List.countP_replicate, if_neg]
  simp; omega

/-- told: what was told of is not white -/
def Told (w : World) (gt : Nat) (bs : List Bool) (cs : List Int) : Prop :=
  w.heap[gt]? = some (.cells (bs.map Value.bool).toArray 4 (0, 0)) ∧ bs.length = cs.length ∧ ∀ i, bs.getD i false = true → cs.getD i 0 ≠ 0
theorem Told.keep {w w' : World} {gt : Nat} {bs : List Bool} {cs : List Int} (h : Told w gt bs cs) (hk : w'.heap[gt]? = w.heap[gt]?) : Told w' gt bs cs := ⟨hk.trans h.1, h.2⟩
theorem Told.lt {w : World} {gt : Nat} {bs : List Bool} {cs : List Int} (h : Told w gt bs cs) : gt < w.heap.size := ltOf h.1
theorem Told.cell {w : World} {gt : Nat} {bs : List Bool} {cs : List Int} (h : Told w gt bs cs) (i : Nat) (hi : i < cs.length) : w.cell? ⟨gt, i, none⟩ = some (.bool (bs.getD i false)) := by
  rw [cellOf h.1]
  simp [show i < bs.length from by have := h.2.1; omega]
theorem Told.ne {w : World} {gt p g : Nat} {bs : List Bool} {cs cs' : List Int} {m : Int} (h : Told w gt bs cs) (hT : Tn w p g cs' m) : gt ≠ p ∧ gt ≠ g := by
  obtain ⟨f, last, h1, h2, _⟩ := hT
  have hh := h.1
  constructor
  · rintro rfl
    rw [h1] at hh
    injection hh with hh
    injection hh with _ hh
    revert hh; decide
  · rintro rfl
    rw [h2] at hh
    injection hh with hh
    injection hh with _ hh
    revert hh; decide
theorem Told.black {w : World} {gt : Nat} {bs : List Bool} {cs : List Int} (h : Told w gt bs cs) (s : Int) : Told w gt bs (blC cs s) := by
  refine ⟨h.1, h.2.1.trans (blC_len cs s).symm, fun i hi => ?_⟩
  by_cases hs : (i : Int) = s
  · have h0 := h.2.2 i hi
    have hl : i < cs.length := by
      rcases Nat.lt_or_ge i cs.length with h | h
      · exact h
      · rw [List.getD_eq_getElem?_getD, List.getElem?_eq_none h] at h0; exact absurd rfl h0
    unfold blC
    rw [if_pos (by omega), ← hs, Int.toNat_natCast]
    simp [hl]
  · rw [blC_other hs]; exact h.2.2 i hi
theorem shB_in {cs : List Int} {s : Int} (h : shB cs s = true) : 0 ≤ s ∧ s < cs.length ∧ cs.getD s.toNat 0 = 0 := by
  unfold shB at h
  rw [Bool.and_eq_true, decide_eq_true_iff, beq_iff_eq] at h
  exact ⟨h.1.1, h.1.2, h.2⟩
/-- a white one is shaded, and told of -/
theorem Told.shade {w : World} {gt : Nat} {bs : List Bool} {cs : List Int} (h : Told w gt bs cs) (k : Nat) (hs : shB cs k = true) :
    Told (w.setCell ⟨gt, k, none⟩ (.bool true)) gt (bs.set k true) (shC cs k) := by
  obtain ⟨h1, h2, h3⟩ := shB_in hs
  rw [Int.toNat_natCast] at h3
  have e : shC cs k = cs.set k 1 := by unfold shC; rw [if_pos hs, Int.toNat_natCast]
  rw [e]
  refine ⟨?_, by simpa using h.2.1, fun i hi => ?_⟩
  · rw [setOf h.1, List.map_set]; simp
  · by_cases hk : i = k
    · subst hk
      have : i < cs.length := by omega
      simp [this]
    · simp only [List.getD_eq_getElem?_getD] at hi ⊢
      rw [List.getElem?_set_ne (by omega)] at hi ⊢
      have := h.2.2 i
      simp only [List.getD_eq_getElem?_getD] at this
      exact this hi
theorem told_made (w : World) (n : Nat) : Told (w.alloc (.cells (madeCells #[.bool false] n) 4)) w.heap.size (List.replicate n false) (List.replicate n 0) := by
  refine ⟨by rw [heap_alloc_new, madeRow, List.map_replicate], by simp, fun i hi => ?_⟩
  exfalso
  simp only [List.getD_eq_getElem?_getD] at hi
  by_cases h : i < n
  · simp [h] at hi
  · rw [List.getElem?_eq_none (by simp; omega)] at hi; simp at hi

theorem info4 : (Try.prog.info? 4).map (fun i => (i.zero, i.size, i.bytes)) = some (some (.bool false), 1, 1) := by kernel_rfl

/-- no slot gets lighter -/
theorem black_dark (cs : List Int) (s : Int) (h : ∀ x ∈ cs, 0 ≤ x ∧ x ≤ 2) : ¬ (ofC (blC cs s) s < ofC cs s) := by
  by_cases hs : 0 ≤ s ∧ s < cs.length
  · have e1 : ofC cs s = cs.getD s.toNat 0 := by unfold ofC; rw [if_pos hs]
    have e2 : ofC (blC cs s) s = 2 := by
      unfold ofC
      rw [blC_len, if_pos hs]
      unfold blC
      rw [if_pos hs]
      have : s.toNat < cs.length := by omega
      simp [this]
    rw [e1, e2]
    have hl : s.toNat < cs.length := by omega
    have := h (cs.getD s.toNat 0) (by simp [hl])
    omega
  · have e1 : ofC cs s = 0 := by unfold ofC; rw [if_neg hs]
    have e2 : ofC (blC cs s) s = 0 := by unfold ofC; rw [blC_len, if_neg hs]
    rw [e1, e2]; omega
theorem shade_dark (cs : List Int) (s : Int) : ¬ (ofC (shC cs s) s < ofC cs s) := by
  by_cases hb : shB cs s = true
  · obtain ⟨h1, h2, h3⟩ := shB_in hb
    have e1 : ofC cs s = 0 := by unfold ofC; rw [if_pos ⟨h1, h2⟩, h3]
    have e2 : ofC (shC cs s) s = 1 := by
      unfold ofC
      rw [shC_len, if_pos ⟨h1, h2⟩]
      unfold shC
      rw [if_pos hb]
      have : s.toNat < cs.length := by omega
      simp [this]
    rw [e1, e2]; omega
  · have : shC cs s = cs := by unfold shC; rw [if_neg hb]
    rw [this]; omega
end Go.Proofs.Ytcckppijabajdaa
