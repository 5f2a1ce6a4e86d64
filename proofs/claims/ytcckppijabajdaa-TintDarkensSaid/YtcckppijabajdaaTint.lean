/- The walks of package tint over the translation: what each method computes on a Tint that New made. -/
import Derived.Test.YtcckppijabajdaaRows
import Derived.WalkKit
import Derived.WalkSpells
import Derived.WalkLawsBesides
import Derived.RegionTactic
import Derived.ChangeAlike
import Derived.Below
import Derived.Lib.Hide
namespace Go.Proofs.Ytcckppijabajdaa
open Go.RowKit

/-- the two cells of a Tint at block p -/
def TC (w : World) (p g n : Nat) (f : Int) : Prop :=
  w.cell? ⟨p, 0, none⟩ = some (.slice (some ⟨g, 0, none⟩) n n) ∧ w.cell? ⟨p, 1, none⟩ = some (.int .u64 f) ∧ 1 ≤ f ∧ f ≤ 1000000 ∧ n ≤ 65536

theorem none_any (w : World) (p g n : Nat) (f : Int) (h : TC w p g n f) :
    Calls Try.prog 18 #[.pointer (some ⟨p, 0, none⟩)] w fun e w' => e = .returned (.bool false) ∧ w = w' := by
  obtain ⟨h0, h1, h2, h3, h4⟩ := h
  have hz : (f == 0) = false := by rw [beq_eq_false_iff_ne]; omega
  go_enter Try.func18, Try.ntmps18
  go_wp2
  go_ret
  exact ⟨rfl, rfl⟩

theorem has_in (w : World) (p g n : Nat) (f s : Int) (h : TC w p g n f) (hs : 0 ≤ s) (hs' : s < n) :
    Calls Try.prog 22 #[.pointer (some ⟨p, 0, none⟩), .int .i64 s] w fun e w' => e = .returned (.int .i64 0) ∧ w = w' := by
  have c := none_any w p g n f h
  obtain ⟨h0, h1, h2, h3, h4⟩ := h
  go_enter Try.func22, Try.ntmps22
  go_wp2_with (go_at_call 18; refine c.mono ?_; rintro e w' ⟨rfl, rfl⟩)
  go_ret
  exact ⟨rfl, rfl⟩

theorem has_out (w : World) (p g n : Nat) (f s : Int) (h : TC w p g n f) (hs : s < 0 ∨ n ≤ s) :
    Calls Try.prog 22 #[.pointer (some ⟨p, 0, none⟩), .int .i64 s] w fun e w' => e = .returned (.int .i64 2) ∧ w = w' := by
  have c := none_any w p g n f h
  obtain ⟨h0, h1, h2, h3, h4⟩ := h
  rcases hs with hs | hs
  all_goals
    go_enter Try.func22, Try.ntmps22
    go_wp2_with (go_at_call 18; refine c.mono ?_; rintro e w' ⟨rfl, rfl⟩)
    go_ret
    exact ⟨rfl, rfl⟩

/-- the colour of what was turned last -/
def col (f l : Int) : Int := if l = 2 * f then 1 else if l = 2 * f + 1 then 2 else 0

theorem colour_any (w : World) (p g n : Nat) (f l : Int) (h : TC w p g n f) :
    Calls Try.prog 20 #[.pointer (some ⟨p, 0, none⟩), .int .u64 l] w fun e w' => e = .returned (.int .u8 (col f l)) ∧ w = w' := by
  obtain ⟨h0, h1, h2, h3, h4⟩ := h
  by_cases c1 : l = 2 * f
  · have e : col f l = 1 := by unfold col; rw [if_pos c1]
    rw [e]
    subst c1
    go_enter Try.func20, Try.ntmps20
    go_wp2
    go_ret
    exact ⟨rfl, rfl⟩
  · have b1 : (l == 2 * f) = false := by rw [beq_eq_false_iff_ne]; exact c1
    by_cases c2 : l = 2 * f + 1
    · have e : col f l = 2 := by unfold col; rw [if_neg c1, if_pos c2]
      rw [e]
      subst c2
      clear c1 e
      go_enter Try.func20, Try.ntmps20
      go_wp2
      go_ret
      exact ⟨rfl, rfl⟩
    · have e : col f l = 0 := by unfold col; rw [if_neg c1, if_neg c2]
      have b2 : (l == 2 * f + 1) = false := by rw [beq_eq_false_iff_ne]; exact c2
      rw [e]
      clear c1 c2 e
      go_enter Try.func20, Try.ntmps20
      go_wp2
      go_ret
      exact ⟨rfl, rfl⟩

theorem of_in (w : World) (p g n : Nat) (f l : Int) (k : Nat) (h : TC w p g n f) (hs' : k < n) (hc : w.cell? ⟨g, k, none⟩ = some (.int .u64 l)) :
    Calls Try.prog 15 #[.pointer (some ⟨p, 0, none⟩), .int .i64 k] w fun e w' => e = .returned (.tuple #[.int .u8 (col f l), .int .i64 0]) ∧ w = w' := by
  have c := has_in w p g n f k h (by omega) (by omega)
  have d := colour_any w p g n f l h
  obtain ⟨h0, h1, h2, h3, h4⟩ := h
  go_enter Try.func15, Try.ntmps15
  go_wp2_with (first | (go_at_call 22; refine c.mono ?_; rintro e w' ⟨rfl, rfl⟩) | (go_at_call 20; refine d.mono ?_; rintro e w' ⟨rfl, rfl⟩))
  go_ret2
  exact ⟨rfl, rfl⟩
theorem of_out (w : World) (p g n : Nat) (f s : Int) (h : TC w p g n f) (hs : s < 0 ∨ n ≤ s) :
    Calls Try.prog 15 #[.pointer (some ⟨p, 0, none⟩), .int .i64 s] w fun e w' => e = .returned (.tuple #[.int .u8 0, .int .i64 2]) ∧ w = w' := by
  have c := has_out w p g n f s h hs
  go_enter Try.func15, Try.ntmps15
  go_wp2_with (go_at_call 22; refine c.mono ?_; rintro e w' ⟨rfl, rfl⟩)
  go_ret2
  exact ⟨rfl, rfl⟩

/-- of blocks that were there none but p and g have turned -/
structure Only (w w' : World) (p g : Nat) : Prop where
  os : w'.os = w.os
  tape : w'.tape = w.tape
  output : w'.output = w.output
  size : w.heap.size ≤ w'.heap.size
  block : ∀ k, k < w.heap.size → k ≠ p → k ≠ g → w'.heap[k]? = w.heap[k]?
theorem Only.refl (w : World) (p g : Nat) : Only w w p g := ⟨rfl, rfl, rfl, Nat.le_refl _, fun _ _ _ _ => rfl⟩
theorem Only.below {w w' : World} {p g B : Nat} (h : Only w w' p g) (hp : B ≤ p) (hg : B ≤ g) (hB : B ≤ w.heap.size) : Below B w w' :=
  ⟨h.os, h.tape, h.output, h.size, fun k hk => h.block k (by omega) (by omega) (by omega)⟩
theorem Only.stored (w : World) (p g : Nat) (a : Addr) (u : Value) (ha : a.block = p ∨ a.block = g) : Only w (w.setCell a u) p g :=
  ⟨rfl, rfl, rfl, by simp [World.setCell], fun k _ h1 h2 => Below.heap_setCell _ _ _ _ (by rcases ha with h | h <;> omega)⟩
theorem Only.drew {w w' : World} {p g : Nat} (h : Only w w' p g) : Only w w'.drew p g := ⟨h.os, h.tape, h.output, h.size, h.block⟩

theorem cellOf {w : World} {b : Nat} {cs : Array Value} {t : TypeId} (h : w.heap[b]? = some (.cells cs t (0, 0))) (i : Nat) : w.cell? ⟨b, i, none⟩ = cs[i]? := cell_of_row w b i cs t (0, 0) h
theorem frozenOf {w : World} {b : Nat} {cs : Array Value} {t : TypeId} (h : w.heap[b]? = some (.cells cs t (0, 0))) (i : Nat) : w.frozen? ⟨b, i, none⟩ = false := by
  simp [World.frozen?, h]
theorem ltOf {w : World} {b : Nat} {o : Obj} (h : w.heap[b]? = some o) : b < w.heap.size := by
  rcases Nat.lt_or_ge b w.heap.size with hlt | hge
  · exact hlt
  · rw [Array.getElem?_eq_none hge] at h; cases h
theorem setOf {w : World} {b : Nat} {cs : Array Value} {t : TypeId} (h : w.heap[b]? = some (.cells cs t (0, 0))) (i : Nat) (u : Value) :
    (w.setCell ⟨b, i, none⟩ u).heap[b]? = some (.cells (cs.setIfInBounds i u) t (0, 0)) := by
  simp [World.setCell, Array.getElem?_modify, h]

/-- a Tint at block p, its row at block g, of the colours cs; at most m flips -/
def Tn (w : World) (p g : Nat) (cs : List Int) (m : Int) : Prop :=
  ∃ (f : Int) (last : List Int), w.heap[p]? = some (.cells #[.slice (some ⟨g, 0, none⟩) cs.length cs.length, .int .u64 f] 50 (0, 0)) ∧
    w.heap[g]? = some (.cells (last.map (Value.int .u64)).toArray 48 (0, 0)) ∧ cs = last.map (col f) ∧ (∀ l ∈ last, 0 ≤ l ∧ l ≤ 2 * f + 1) ∧
    1 ≤ f ∧ f ≤ m ∧ m ≤ 1000000 ∧ cs.length ≤ 65536

theorem Tn.ne {w : World} {p g : Nat} {cs : List Int} {m : Int} (h : Tn w p g cs m) : p ≠ g := by
  obtain ⟨f, last, hp, hg, _⟩ := h
  rintro rfl
  rw [hp] at hg
  injection hg with hg
  injection hg with _ ht
  revert ht; decide
theorem Tn.keep {w w' : World} {p g : Nat} {cs : List Int} {m : Int} (h : Tn w p g cs m) (hp : w'.heap[p]? = w.heap[p]?) (hg : w'.heap[g]? = w.heap[g]?) : Tn w' p g cs m := by
  obtain ⟨f, last, h1, h2, r⟩ := h
  exact ⟨f, last, hp.trans h1, hg.trans h2, r⟩
theorem Tn.below {w w' : World} {p g B : Nat} {cs : List Int} {m : Int} (h : Tn w p g cs m) (hb : Below B w w') (hp : p < B) (hg : g < B) : Tn w' p g cs m :=
  h.keep (hb.block p hp) (hb.block g hg)
theorem Tn.lt {w : World} {p g : Nat} {cs : List Int} {m : Int} (h : Tn w p g cs m) : p < w.heap.size ∧ g < w.heap.size := by
  obtain ⟨f, last, h1, h2, r⟩ := h
  exact ⟨ltOf h1, ltOf h2⟩

def ofE (n : Nat) (s : Int) : Int := if 0 ≤ s ∧ s < n then 0 else 2
def ofC (cs : List Int) (s : Int) : Int := if 0 ≤ s ∧ s < cs.length then cs.getD s.toNat 0 else 0
def shB (cs : List Int) (s : Int) : Bool := decide (0 ≤ s ∧ s < cs.length) && (cs.getD s.toNat 0 == 0)
def shC (cs : List Int) (s : Int) : List Int := if shB cs s then cs.set s.toNat 1 else cs
def blC (cs : List Int) (s : Int) : List Int := if 0 ≤ s ∧ s < cs.length then cs.set s.toNat 2 else cs

theorem getD_map_col (f : Int) (last : List Int) (k : Nat) (h : k < last.length) : (last.map (col f)).getD k 0 = col f (last.getD k 0) := by
  simp [List.getD_eq_getElem?_getD, h]
theorem cell_last {w : World} {g : Nat} {last : List Int} (h : w.heap[g]? = some (.cells (last.map (Value.int .u64)).toArray 48 (0, 0))) (k : Nat) (hk : k < last.length) :
    w.cell? ⟨g, k, none⟩ = some (.int .u64 (last.getD k 0)) := by
  rw [cellOf h]
  simp [hk]

theorem tOf_any (w : World) (p g : Nat) (cs : List Int) (m s : Int) (h : Tn w p g cs m) :
    Calls Try.prog 15 #[.pointer (some ⟨p, 0, none⟩), .int .i64 s] w fun e w' => e = .returned (.tuple #[.int .u8 (ofC cs s), .int .i64 (ofE cs.length s)]) ∧ w = w' := by
  obtain ⟨f, last, hp, hg, hcs, hl, f1, f2, f3, hn⟩ := h
  have hT : TC w p g cs.length f := ⟨by rw [cellOf hp]; rfl, by rw [cellOf hp]; rfl, f1, by omega, hn⟩
  have hlen : last.length = cs.length := by rw [hcs]; simp
  by_cases hs : 0 ≤ s ∧ s < cs.length
  · obtain ⟨k, rfl⟩ := Int.eq_ofNat_of_zero_le hs.1
    have hk : k < cs.length := by omega
    have e1 : ofC cs k = col f (last.getD k 0) := by
      unfold ofC; rw [if_pos hs, Int.toNat_natCast, hcs, getD_map_col _ _ _ (by omega)]
    have e2 : ofE cs.length k = 0 := by unfold ofE; rw [if_pos hs]
    rw [e1, e2]
    exact of_in w p g cs.length f _ k hT hk (cell_last hg k (by omega))
  · have e1 : ofC cs s = 0 := by unfold ofC; rw [if_neg hs]
    have e2 : ofE cs.length s = 2 := by unfold ofE; rw [if_neg hs]
    rw [e1, e2]
    exact of_out w p g cs.length f s hT (by omega)

theorem col_range (f l : Int) : 0 ≤ col f l ∧ col f l ≤ 2 := by unfold col; split <;> (try split) <;> omega

/-- the raw step: Shade of a white slot -/
theorem shade_in (w : World) (p g n : Nat) (f l : Int) (k : Nat) (h : TC w p g n f) (hs' : k < n) (hc : w.cell? ⟨g, k, none⟩ = some (.int .u64 l)) (hf : w.frozen? ⟨g, k, none⟩ = false) (h0 : col f l = 0) :
    Calls Try.prog 14 #[.pointer (some ⟨p, 0, none⟩), .int .i64 k] w fun e w' => e = .returned (.tuple #[.bool true, .int .i64 0]) ∧ w' = (w.setCell ⟨g, k, none⟩ (.int .u64 (2 * f))).drew := by
  have c := of_in w p g n f l k h hs' hc
  rw [h0] at c
  obtain ⟨c0, c1, c2, c3, c4⟩ := h
  clear h0
  go_enter Try.func14, Try.ntmps14
  go_wp2_with (go_at_call 15; refine c.mono ?_; rintro e w' ⟨rfl, rfl⟩)
  go_region
  go_wp2
  go_ret2
  exact ⟨rfl, rfl⟩

/-- the raw step: Shade of one that is not white -/
theorem shade_no (w : World) (p g n : Nat) (f l : Int) (k : Nat) (h : TC w p g n f) (hs' : k < n) (hc : w.cell? ⟨g, k, none⟩ = some (.int .u64 l)) (h0 : (col f l == 0) = false) :
    Calls Try.prog 14 #[.pointer (some ⟨p, 0, none⟩), .int .i64 k] w fun e w' => e = .returned (.tuple #[.bool false, .int .i64 0]) ∧ w = w' := by
  have c := of_in w p g n f l k h hs' hc
  generalize col f l = cc at *
  go_enter Try.func14, Try.ntmps14
  go_wp2_with (go_at_call 15; refine c.mono ?_; rintro e w' ⟨rfl, rfl⟩)
  go_ret2
  exact ⟨rfl, rfl⟩
theorem shade_out (w : World) (p g n : Nat) (f s : Int) (h : TC w p g n f) (hs : s < 0 ∨ n ≤ s) :
    Calls Try.prog 14 #[.pointer (some ⟨p, 0, none⟩), .int .i64 s] w fun e w' => e = .returned (.tuple #[.bool false, .int .i64 2]) ∧ w = w' := by
  have c := of_out w p g n f s h hs
  go_enter Try.func14, Try.ntmps14
  go_wp2_with (go_at_call 15; refine c.mono ?_; rintro e w' ⟨rfl, rfl⟩)
  go_ret2
  exact ⟨rfl, rfl⟩
theorem black_in (w : World) (p g n : Nat) (f l : Int) (k : Nat) (h : TC w p g n f) (hs' : k < n) (hc : w.cell? ⟨g, k, none⟩ = some (.int .u64 l)) (hf : w.frozen? ⟨g, k, none⟩ = false) :
    Calls Try.prog 11 #[.pointer (some ⟨p, 0, none⟩), .int .i64 k] w fun e w' => e = .returned (.int .i64 0) ∧ w' = (w.setCell ⟨g, k, none⟩ (.int .u64 (2 * f + 1))).drew := by
  have c := has_in w p g n f k h (by omega) (by omega)
  obtain ⟨c0, c1, c2, c3, c4⟩ := h
  go_enter Try.func11, Try.ntmps11
  go_wp2_with (go_at_call 22; refine c.mono ?_; rintro e w' ⟨rfl, rfl⟩)
  go_region
  go_wp2
  go_ret
  exact ⟨rfl, rfl⟩
theorem black_out (w : World) (p g n : Nat) (f s : Int) (h : TC w p g n f) (hs : s < 0 ∨ n ≤ s) :
    Calls Try.prog 11 #[.pointer (some ⟨p, 0, none⟩), .int .i64 s] w fun e w' => e = .returned (.int .i64 2) ∧ w = w' := by
  have c := has_out w p g n f s h hs
  go_enter Try.func11, Try.ntmps11
  go_wp2_with (go_at_call 22; refine c.mono ?_; rintro e w' ⟨rfl, rfl⟩)
  go_ret
  exact ⟨rfl, rfl⟩
theorem flip_raw (w : World) (p g n : Nat) (f : Int) (h : TC w p g n f) (hf : w.frozen? ⟨p, 1, none⟩ = false) :
    Calls Try.prog 12 #[.pointer (some ⟨p, 0, none⟩)] w fun e w' => e = .returned (.tuple #[]) ∧ w' = w.setCell ⟨p, 1, none⟩ (.int .u64 (f + 1)) := by
  have c := none_any w p g n f h
  obtain ⟨c0, c1, c2, c3, c4⟩ := h
  go_enter Try.func12, Try.ntmps12
  go_wp2_with (go_at_call 18; refine c.mono ?_; rintro e w' ⟨rfl, rfl⟩)
  go_end0
  exact ⟨rfl, rfl⟩

def cnt (cs : List Int) (c : Int) : Nat := cs.countP (· == c)
theorem cnt_le (cs : List Int) (c : Int) : cnt cs c ≤ cs.length := List.countP_le_length
theorem cnt_snoc (cs : List Int) (k : Nat) (c : Int) (h : k < cs.length) : cnt (cs.take (k + 1)) c = cnt (cs.take k) c + if cs.getD k 0 == c then 1 else 0 := by
  unfold cnt
  rw [List.take_succ_eq_append_getElem h, List.countP_append]
  simp [h]

/-- the loop of Count, over the raw row; 'of' is the method value of colour -/
theorem count_raw (w : World) (p g n : Nat) (f c : Int) (last : List Int) (h : TC w p g n f) (hn : last.length = n) (hg : w.heap[g]? = some (.cells (last.map (Value.int .u64)).toArray 48 (0, 0))) :
    Calls Try.prog 19 #[.slice (some ⟨g, 0, none⟩) n n, .int .u8 c, .func (.func 20) #[.pointer (some ⟨p, 0, none⟩)] #[]] w fun e w' => e = .returned (.int .i64 (cnt (last.map (col f)) c)) ∧ w = w' := by
  have hle : n ≤ 65536 := h.2.2.2.2
  have hlen : (last.map (col f)).length = n := by simpa using hn
  have hcl := fun k (hk : k < n) => cell_last hg k (by omega)
  have hcol := fun l => colour_any w p g n f l h
  have hgd := fun k (hk : k < n) => getD_map_col f last k (by omega)
  have H : Hid (last.length = n) := hn
  clear h hg hn
  generalize last.map (col f) = cs at *
  have hb := fun k => cnt_le (cs.take k) c
  have hb2 : ∀ k, cnt (cs.take k) c ≤ 65536 := fun k => Nat.le_trans (hb k) (by simp; omega)
  have HL : Hid (cs.length = n) := hlen
  clear hlen hb
  go_enter Try.func19, Try.ntmps19
  go_wp2_with fail
  go_loop [7, 12] (fun t i => ∃ k : Nat, k ≤ n ∧ i = .int .i64 k ∧ t = .int .i64 (cnt (cs.take k) c)) (fun _ i => n - (intOf i).toNat)
  case atStart => exact ⟨0, Nat.zero_le _, rfl, rfl⟩
  case round =>
    obtain ⟨k, hk, rfl, rfl⟩ := hrel
    have hb3 := hb2 k
    by_cases hlt : k < n
    · have hc1 := hcl k hlt
      have hc2 := hcol (last.getD k 0)
      rw [← hgd k hlt] at hc2
      have HS := cnt_snoc cs k c (by rw [HL.out]; exact hlt)
      clear hcl hcol hgd hb2
      by_cases hx : cs.getD k 0 = c
      · have hx' : (cs.getD k 0 == c) = true := by rw [beq_iff_eq]; exact hx
        rw [hx', if_pos rfl] at HS
        rw [hx] at hc2
        have HT := Lib.hid HS
        clear hx hx' HS
        go_wp2_with (go_at_call 20; refine hc2.mono ?_; rintro e w' ⟨rfl, rfl⟩)
        go_round
        case rel => exact ⟨k + 1, by omega, by go_num, by rw [HT.out]; go_num⟩
        case measure => simp [intOf]; omega
      · have hx' : (cs.getD k 0 == c) = false := by rw [beq_eq_false_iff_ne]; exact hx
        generalize cs.getD k 0 = y at *
        rw [hx', if_neg (by decide)] at HS
        have HT := Lib.hid HS
        clear hx HS
        go_wp2_with (go_at_call 20; refine hc2.mono ?_; rintro e w' ⟨rfl, rfl⟩)
        go_round
        case rel => exact ⟨k + 1, by omega, by go_num, by rw [HT.out]; rfl⟩
        case measure => simp [intOf]; omega
    · clear hcl hcol hgd hb2
      have e : cs.take k = cs := List.take_of_length_le (by have := HL.out; omega)
      rw [e]
      clear e
      go_wp2
      go_ret
      exact ⟨rfl, rfl⟩
end Go.Proofs.Ytcckppijabajdaa
