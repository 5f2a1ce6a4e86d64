/- The methods of package tint by one contract each, in terms of the list of colours. -/
import Derived.Test.YtcckppijabajdaaTint
import Derived.Deep.OwnRows
namespace Go.Proofs.Ytcckppijabajdaa
open Go.RowKit

theorem info48 : (Try.prog.info? 48).map (fun i => (i.zero, i.size, i.bytes)) = some (some (.int .u64 0), 1, 8) := by kernel_rfl

theorem tc_of {w : World} {p g : Nat} {cs : List Int} {f : Int} (hp : w.heap[p]? = some (.cells #[.slice (some ⟨g, 0, none⟩) cs.length cs.length, .int .u64 f] 50 (0, 0)))
    (f1 : 1 ≤ f) (f2 : f ≤ 1000000) (hn : cs.length ≤ 65536) : TC w p g cs.length f := ⟨by rw [cellOf hp]; rfl, by rw [cellOf hp]; rfl, f1, f2, hn⟩

theorem col_set (f : Int) (last : List Int) (k : Nat) (v c : Int) (h : col f v = c) : (last.map (col f)).set k c = (last.set k v).map (col f) := by
  rw [List.map_set, h]
theorem map_toArray_set (last : List Int) (k : Nat) (v : Int) : ((last.map (Value.int .u64)).toArray.setIfInBounds k (.int .u64 v)) = ((last.set k v).map (Value.int .u64)).toArray := by
  rw [List.map_set]; simp

/-- a store into the row -/
theorem Tn.stored {w : World} {p g : Nat} {f : Int} {last : List Int} {m : Int} (k : Nat) (v : Int) (hv : 0 ≤ v ∧ v ≤ 2 * f + 1)
    (hp : w.heap[p]? = some (.cells #[.slice (some ⟨g, 0, none⟩) last.length last.length, .int .u64 f] 50 (0, 0)))
    (hg : w.heap[g]? = some (.cells (last.map (Value.int .u64)).toArray 48 (0, 0))) (hpg : p ≠ g) (hl : ∀ l ∈ last, 0 ≤ l ∧ l ≤ 2 * f + 1) (f1 : 1 ≤ f) (f2 : f ≤ m) (f3 : m ≤ 1000000) (hn : last.length ≤ 65536) :
    Tn (w.setCell ⟨g, k, none⟩ (.int .u64 v)).drew p g ((last.map (col f)).set k (col f v)) m := by
  refine ⟨f, last.set k v, ?_, ?_, ?_, ?_, f1, f2, f3, by simpa using hn⟩
  · have := Below.heap_setCell w ⟨g, k, none⟩ (.int .u64 v) p hpg
    show (w.setCell ⟨g, k, none⟩ (.int .u64 v)).heap[p]? = _
    rw [this, hp]; simp
  · show (w.setCell ⟨g, k, none⟩ (.int .u64 v)).heap[g]? = _
    rw [setOf hg, map_toArray_set]
  · exact col_set f last k v _ rfl
  · intro l hm
    rcases List.mem_or_eq_of_mem_set hm with h | h
    · exact hl l h
    · rw [h]; exact hv

theorem col_grey (f : Int) : col f (2 * f) = 1 := by unfold col; rw [if_pos rfl]
theorem col_black (f : Int) : col f (2 * f + 1) = 2 := by unfold col; rw [if_neg (by omega), if_pos rfl]

theorem tShade_any (w : World) (p g : Nat) (cs : List Int) (m s : Int) (h : Tn w p g cs m) :
    Calls Try.prog 14 #[.pointer (some ⟨p, 0, none⟩), .int .i64 s] w fun e w' => e = .returned (.tuple #[.bool (shB cs s), .int .i64 (ofE cs.length s)]) ∧ Tn w' p g (shC cs s) m ∧ Only w w' p g := by
  have hne := h.ne
  have hT' := h
  obtain ⟨f, last, hp, hg, hcs, hl, f1, f2, f3, hn⟩ := h
  have hT := tc_of hp f1 (by omega) hn
  have hlen : last.length = cs.length := by rw [hcs]; simp
  by_cases hs : 0 ≤ s ∧ s < cs.length
  · obtain ⟨k, rfl⟩ := Int.eq_ofNat_of_zero_le hs.1
    have hk : k < cs.length := by omega
    have e2 : ofE cs.length k = 0 := by unfold ofE; rw [if_pos hs]
    have hgd : cs.getD k 0 = col f (last.getD k 0) := by rw [hcs, getD_map_col _ _ _ (by omega)]
    have e1 : shB cs k = (col f (last.getD k 0) == 0) := by unfold shB; rw [Int.toNat_natCast, hgd, decide_eq_true hs, Bool.true_and]
    rw [e2]
    by_cases h0 : col f (last.getD k 0) = 0
    · have e3 : shB cs k = true := by rw [e1, h0]; rfl
      have e4 : shC cs k = cs.set k 1 := by unfold shC; rw [if_pos e3, Int.toNat_natCast]
      rw [e3, e4]
      refine (shade_in w p g cs.length f _ k hT hk (cell_last hg k (by omega)) (frozenOf hg k) h0).mono ?_
      rintro e w' ⟨rfl, rfl⟩
      refine ⟨rfl, ?_, (Only.stored w p g _ _ (.inr rfl)).drew⟩
      rw [← hlen] at hp
      have := Tn.stored k (2 * f) ⟨by omega, by omega⟩ hp hg hne hl f1 f2 f3 (by omega)
      rw [col_grey, ← hcs] at this
      exact this
    · have e3 : shB cs k = false := by rw [e1, beq_eq_false_iff_ne]; exact h0
      have e4 : shC cs k = cs := by unfold shC; rw [if_neg (by rw [e3]; decide)]
      rw [e3, e4]
      refine (shade_no w p g cs.length f _ k hT hk (cell_last hg k (by omega)) (by rw [beq_eq_false_iff_ne]; exact h0)).mono ?_
      rintro e w' ⟨rfl, rfl⟩
      exact ⟨rfl, hT', Only.refl _ _ _⟩
  · have e2 : ofE cs.length s = 2 := by unfold ofE; rw [if_neg hs]
    have e3 : shB cs s = false := by unfold shB; rw [decide_eq_false hs, Bool.false_and]
    have e4 : shC cs s = cs := by unfold shC; rw [if_neg (by rw [e3]; decide)]
    rw [e2, e3, e4]
    refine (shade_out w p g cs.length f s hT (by omega)).mono ?_
    rintro e w' ⟨rfl, rfl⟩
    exact ⟨rfl, hT', Only.refl _ _ _⟩

theorem tBlack_any (w : World) (p g : Nat) (cs : List Int) (m s : Int) (h : Tn w p g cs m) :
    Calls Try.prog 11 #[.pointer (some ⟨p, 0, none⟩), .int .i64 s] w fun e w' => e = .returned (.int .i64 (ofE cs.length s)) ∧ Tn w' p g (blC cs s) m ∧ Only w w' p g := by
  have hne := h.ne
  have hT' := h
  obtain ⟨f, last, hp, hg, hcs, hl, f1, f2, f3, hn⟩ := h
  have hT := tc_of hp f1 (by omega) hn
  have hlen : last.length = cs.length := by rw [hcs]; simp
  by_cases hs : 0 ≤ s ∧ s < cs.length
  · obtain ⟨k, rfl⟩ := Int.eq_ofNat_of_zero_le hs.1
    have hk : k < cs.length := by omega
    have e2 : ofE cs.length k = 0 := by unfold ofE; rw [if_pos hs]
    have e4 : blC cs k = cs.set k 2 := by unfold blC; rw [if_pos hs, Int.toNat_natCast]
    rw [e2, e4]
    refine (black_in w p g cs.length f _ k hT hk (cell_last hg k (by omega)) (frozenOf hg k)).mono ?_
    rintro e w' ⟨rfl, rfl⟩
    refine ⟨rfl, ?_, (Only.stored w p g _ _ (.inr rfl)).drew⟩
    rw [← hlen] at hp
    have := Tn.stored k (2 * f + 1) ⟨by omega, by omega⟩ hp hg hne hl f1 f2 f3 (by omega)
    rw [col_black, ← hcs] at this
    exact this
  · have e2 : ofE cs.length s = 2 := by unfold ofE; rw [if_neg hs]
    have e4 : blC cs s = cs := by unfold blC; rw [if_neg hs]
    rw [e2, e4]
    refine (black_out w p g cs.length f s hT (by omega)).mono ?_
    rintro e w' ⟨rfl, rfl⟩
    exact ⟨rfl, hT', Only.refl _ _ _⟩

theorem all_white (f : Int) (last : List Int) (hl : ∀ l ∈ last, 0 ≤ l ∧ l ≤ 2 * f + 1) : last.map (col (f + 1)) = List.replicate last.length 0 := by
  rw [List.eq_replicate_iff]
  refine ⟨by simp, ?_⟩
  intro b hb
  obtain ⟨l, hl', rfl⟩ := List.mem_map.1 hb
  have := hl l hl'
  unfold col; rw [if_neg (by omega), if_neg (by omega)]

theorem tFlip_any (w : World) (p g : Nat) (cs : List Int) (m : Int) (h : Tn w p g cs m) (hm : m < 1000000) :
    Calls Try.prog 12 #[.pointer (some ⟨p, 0, none⟩)] w fun e w' => e = .returned (.tuple #[]) ∧ Tn w' p g (List.replicate cs.length 0) (m + 1) ∧ Only w w' p g := by
  have hne := h.ne
  obtain ⟨f, last, hp, hg, hcs, hl, f1, f2, f3, hn⟩ := h
  have hT := tc_of hp f1 (by omega) hn
  have hlen : last.length = cs.length := by rw [hcs]; simp
  refine (flip_raw w p g cs.length f hT (frozenOf hp 1)).mono ?_
  rintro e w' ⟨rfl, rfl⟩
  refine ⟨rfl, ⟨f + 1, last, ?_, ?_, ?_, ?_, by omega, by omega, by omega, by simpa using hn⟩, Only.stored w p g _ _ (.inl rfl)⟩
  · rw [setOf hp]; simp
  · rw [Below.heap_setCell _ _ _ _ (Ne.symm hne)]; exact hg
  · rw [← hlen]
    exact (all_white f last hl).symm
  · intro l hl'
    have := hl l hl'
    omega

theorem tCount_any (w : World) (p g : Nat) (cs : List Int) (m c : Int) (h : Tn w p g cs m) :
    Calls Try.prog 9 #[.pointer (some ⟨p, 0, none⟩), .int .u8 c] w fun e w' => e = .returned (.int .i64 (cnt cs c)) ∧ w = w' := by
  obtain ⟨f, last, hp, hg, hcs, hl, f1, f2, f3, hn⟩ := h
  have hT := tc_of hp f1 (by omega) hn
  have hlen : last.length = cs.length := by rw [hcs]; simp
  have d := none_any w p g cs.length f hT
  have c := count_raw w p g cs.length f c last hT hlen hg
  rw [← hcs] at c
  obtain ⟨c0, c1, _⟩ := hT
  clear hp hg hcs hl hlen
  go_enter Try.func9, Try.ntmps9
  go_wp2_with (first | (go_at_call 18; refine d.mono ?_; rintro e w' ⟨rfl, rfl⟩) | (go_at_call 19; refine c.mono ?_; rintro e w' ⟨rfl, rfl⟩))
  go_ret
  exact ⟨rfl, rfl⟩

theorem tNew_out (w : World) (n : Int) (h : n < 0 ∨ 65536 < n) :
    Calls Try.prog 7 #[.int .i64 n] w fun e w' => e = .returned (.tuple #[.pointer none, .int .i64 2]) ∧ w = w' := by
  rcases h with h | h
  all_goals
    go_enter Try.func7, Try.ntmps7
    go_wp2
    go_ret2
    exact ⟨rfl, rfl⟩

theorem new_raw (w : World) (n : Nat) (h : n ≤ 65536) :
    Calls Try.prog 7 #[.int .i64 n] w fun e w' => e = .returned (.tuple #[.pointer (some ⟨w.heap.size + 1, 0, none⟩), .int .i64 0]) ∧
      w' = (w.alloc (.cells (madeCells #[.int .u64 0] n) 48)).alloc (.cells #[.slice (some ⟨w.heap.size, 0, none⟩) n n, .int .u64 1] 50) := by
  have hmk := run_make_row' (P := Try.prog) 47 48 (.int .u64 0) 8 Try.underlying47 info48 rfl .i64 .i64 n (by omega) (by omega)
  go_enter Try.func7, Try.ntmps7
  go_wp2
  go_ret2
  exact ⟨rfl, rfl⟩

theorem madeRow (z : Value) (n : Nat) : madeCells #[z] n = (List.replicate n z).toArray := by
  rw [← toList_madeCells_one]

theorem tNew_in (w : World) (n : Nat) (m : Int) (h : n ≤ 65536) (hm : 1 ≤ m) (hm' : m ≤ 1000000) :
    Calls Try.prog 7 #[.int .i64 n] w fun e w' => ∃ p g, e = .returned (.tuple #[.pointer (some ⟨p, 0, none⟩), .int .i64 0]) ∧ Tn w' p g (List.replicate n 0) m ∧ Below w.heap.size w w' ∧ w.heap.size ≤ p ∧ w.heap.size ≤ g := by
  refine (new_raw w n h).mono ?_
  rintro e w' ⟨rfl, rfl⟩
  refine ⟨w.heap.size + 1, w.heap.size, rfl, ⟨1, List.replicate n 0, ?_, ?_, ?_, ?_, by omega, hm, hm', by simpa using h⟩, ((Below.refl _ _).alloc (Nat.le_refl _) _).alloc (by simp) _, by omega, by omega⟩
  · rw [List.length_replicate]
    have := heap_alloc_new (w.alloc (.cells (madeCells #[.int .u64 0] n) 48)) (.cells #[.slice (some ⟨w.heap.size, 0, none⟩) n n, .int .u64 1] 50)
    rw [World.size_alloc] at this
    exact this
  · rw [Below.heap_alloc _ _ _ (by simp), heap_alloc_new, madeRow, List.map_replicate]
  · rw [List.map_replicate]; rfl
  · intro l hl
    rw [List.eq_of_mem_replicate hl]; omega
end Go.Proofs.Ytcckppijabajdaa
