/- The walk of the law's awake. -/
import Derived.Test.YtccakpbgmgogeaaRawL
namespace Go.Proofs.Ytccakpbgmgogeaa
open Go.RowKit RawPlain

theorem strs_lit (w : World) (X : List (List UInt8)) (t : TypeId) (hX : ∀ p ∈ X, p.length ≤ 9223372036854775807) (hl : X.length ≤ 9223372036854775807) :
    Strs (w.alloc (.cells (X.map SV).toArray t)) (some ⟨w.heap.size, 0, none⟩) X.length (fun i => X.getD i []) := by
  refine ⟨fun i => ?_, hl, fun _ => ⟨w.heap.size, 0, rfl, by simp, fun i hi => ?_⟩⟩
  · show (X.getD i []).length ≤ _
    rw [List.getD_eq_getElem?_getD]
    cases e : X[i]? with
    | none => simp
    | some p => exact hX p (List.mem_of_getElem? e)
  · rw [Nat.zero_add, cell_of_row _ _ i _ _ _ (heap_alloc_new w _)]
    simp only [List.getElem?_toArray, List.getElem?_map, List.getElem?_eq_getElem hi, Option.map_some]
    rw [List.getD_eq_getElem?_getD, List.getElem?_eq_getElem hi]; rfl
def AwakePost (w : World) (e : Ending) (w' : World) : Prop := e = .returned (.bool true) ∧ Below w.heap.size w w'
theorem put1 (w : World) : Calls Try.prog 8 #[.agg #[.int .u8 2, .int .i64 0, .int .u8 0, .int .u64 0, .int .i64 0, .int .i64 0, .int .u64 0, .int .i64 3, .int .u8 7]] w fun e w' => e = .returned (.tuple #[.string ⟨#[2, 3, 7]⟩, .int .i64 0]) ∧ Below w.heap.size w w' := by
  have h := put_full ⟨2, 0, 0, 0, 0, 0, 0, 3, 7⟩ (by constructor <;> decide) w
  unfold PutPost at h
  rw [show putS ⟨2, 0, 0, 0, 0, 0, 0, 3, 7⟩ = [2, 3, 7] from by decide, show putN ⟨2, 0, 0, 0, 0, 0, 0, 3, 7⟩ = 0 from by decide] at h
  exact h
theorem put2 (w : World) : Calls Try.prog 8 #[.agg #[.int .u8 2, .int .i64 1, .int .u8 0, .int .u64 0, .int .i64 0, .int .i64 0, .int .u64 0, .int .i64 3, .int .u8 0]] w fun e w' => e = .returned (.tuple #[.string ⟨#[]⟩, .int .i64 2]) ∧ Below w.heap.size w w' := by
  have h := put_full ⟨2, 1, 0, 0, 0, 0, 0, 3, 0⟩ (by constructor <;> decide) w
  unfold PutPost at h
  rw [show putS ⟨2, 1, 0, 0, 0, 0, 0, 3, 0⟩ = [] from by decide, show putN ⟨2, 1, 0, 0, 0, 0, 0, 3, 0⟩ = 2 from by decide] at h
  exact h
theorem put3 (w : World) : Calls Try.prog 8 #[.agg #[.int .u8 3, .int .i64 0, .int .u8 0, .int .u64 0, .int .i64 0, .int .i64 0, .int .u64 0, .int .i64 0, .int .u8 0]] w fun e w' => e = .returned (.tuple #[.string ⟨#[]⟩, .int .i64 2]) ∧ Below w.heap.size w w' := by
  have h := put_full ⟨3, 0, 0, 0, 0, 0, 0, 0, 0⟩ (by constructor <;> decide) w
  unfold PutPost at h
  rw [show putS ⟨3, 0, 0, 0, 0, 0, 0, 0, 0⟩ = [] from by decide, show putN ⟨3, 0, 0, 0, 0, 0, 0, 0, 0⟩ = 2 from by decide] at h
  exact h
theorem put4 (w : World) : Calls Try.prog 8 #[.agg #[.int .u8 1, .int .i64 2, .int .u8 2, .int .u64 144115209550692355, .int .i64 (-1), .int .i64 4, .int .u64 9, .int .i64 0, .int .u8 0]] w fun e w' => e = .returned (.tuple #[.string ⟨#[1, 2, 2, 2, 0, 0, 5, 0, 0, 0, 3, 255, 255, 255, 255, 0, 0, 0, 4, 0, 0, 0, 0, 0, 0, 0, 9]⟩, .int .i64 0]) ∧ Below w.heap.size w w' := by
  have h := put_full ⟨1, 2, 2, 144115209550692355, -1, 4, 9, 0, 0⟩ (by constructor <;> decide) w
  unfold PutPost at h
  rw [show putS ⟨1, 2, 2, 144115209550692355, -1, 4, 9, 0, 0⟩ = [1, 2, 2, 2, 0, 0, 5, 0, 0, 0, 3, 255, 255, 255, 255, 0, 0, 0, 4, 0, 0, 0, 0, 0, 0, 0, 9] from by decide, show putN ⟨1, 2, 2, 144115209550692355, -1, 4, 9, 0, 0⟩ = 0 from by decide] at h
  exact h
theorem get1 (w : World) : Calls Try.prog 10 #[.string ⟨#[2, 3]⟩] w fun e w' => e = .returned (.tuple #[.agg zeros, .int .i64 250]) ∧ Below w.heap.size w w' := by
  have h := get_any [2, 3] (by decide) w
  unfold GetPost at h
  rw [show getE [2, 3] = E.zero from by decide, show getN [2, 3] = 250 from by decide] at h
  exact h
theorem get2 (w : World) : Calls Try.prog 10 #[.string ⟨#[2, 3, 7, 0]⟩] w fun e w' => e = .returned (.tuple #[.agg zeros, .int .i64 250]) ∧ Below w.heap.size w w' := by
  have h := get_any [2, 3, 7, 0] (by decide) w
  unfold GetPost at h
  rw [show getE [2, 3, 7, 0] = E.zero from by decide, show getN [2, 3, 7, 0] = 250 from by decide] at h
  exact h
theorem pieces_at : pieces [3, 2, 3, 7, 0, 2, 97] = [[2, 3, 7], [], [97]] := by
  rw [pieces_cons, show ([2, 3, 7, 0, 2, 97] : List UInt8).drop (3 : UInt8).toNat = [0, 2, 97] from rfl, pieces_cons, show ([2, 97] : List UInt8).drop (0 : UInt8).toNat = [2, 97] from rfl, pieces_cons, show ([97] : List UInt8).drop (2 : UInt8).toNat = [] from rfl, pieces_nil]; rfl
theorem whole_at : whole [2, 97] = false := by rw [whole_cons]; rfl
theorem split1 (w : World) : Calls Try.prog 17 #[.string ⟨#[3, 2, 3, 7, 0, 2, 97]⟩] w fun e w' => ∃ A cap, e = .returned (.slice A 3 cap) ∧ Strs w' A 3 (fun i => [[2, 3, 7], [], [97]].getD i []) ∧ Below w.heap.size w w' := by
  refine (split_any [3, 2, 3, 7, 0, 2, 97] (by decide) w).mono ?_
  rintro e w' ⟨v, n, rfl, ho, hb⟩
  rw [pieces_at] at ho
  have hn : n = 3 := by have := ho.1; simpa using this.symm
  subst hn
  obtain ⟨A, cap, rfl, _, _, hs⟩ := strs_own ho (by decide) (by decide)
  exact ⟨A, cap, rfl, hs, hb⟩
theorem whole1 (w : World) : Calls Try.prog 18 #[.string ⟨#[2, 97]⟩] w fun e w' => e = .returned (.bool false) ∧ ∃ k, w' = w.drewN k := by
  have h := whole_any [2, 97] (by decide) w
  rw [whole_at] at h
  exact h
theorem join1 (w : World) (cap : Nat) : Calls Try.prog 14 #[.slice (some ⟨w.heap.size, 0, none⟩) 2 cap] (w.alloc (.cells #[.string ⟨#[97, 98]⟩, .string ⟨#[]⟩] 9)) fun e w' => e = .returned (.tuple #[.string ⟨#[2, 97, 98, 0]⟩, .int .i64 0]) ∧ Below w.heap.size w w' := by
  have hs := strs_lit w [[97, 98], []] 9 (by decide) (by decide)
  refine (join_any _ _ 2 cap _ hs (by decide)).mono ?_
  rintro e w' ⟨rfl, hb⟩
  refine ⟨?_, ((Below.refl w.heap.size w).alloc (Nat.le_refl _) _).trans (hb.mono (by simp))⟩
  rw [show joinS (fun i => [[97, 98], []].getD i []) 2 = [2, 97, 98, 0] from by decide, show joinN (fun i => [[97, 98], []].getD i []) 2 = 0 from by decide]; rfl
theorem same1 (w : World) (A : Option Addr) (c1 c2 : Nat) (h : Strs w A 3 (fun i => [[2, 3, 7], [], [97]].getD i [])) : Calls Try.prog 16 #[.slice A 3 c1, .slice (some ⟨w.heap.size, 0, none⟩) 3 c2] (w.alloc (.cells #[.string ⟨#[2, 3, 7]⟩, .string ⟨#[]⟩, .string ⟨#[97]⟩] 9)) fun e w' => e = .returned (.bool true) ∧ ∃ k, w' = (w.alloc (.cells #[.string ⟨#[2, 3, 7]⟩, .string ⟨#[]⟩, .string ⟨#[97]⟩] 9)).drewN k := by
  have h1 := h.below ((Below.refl w.heap.size w).alloc (Nat.le_refl _) (.cells #[.string ⟨#[2, 3, 7]⟩, .string ⟨#[]⟩, .string ⟨#[97]⟩] 9)) (Nat.le_refl _)
  have h2 := strs_lit w [[2, 3, 7], [], [97]] 9 (by decide) (by decide)
  have c := same_any _ _ _ 3 3 c1 c2 _ _ h1 h2
  rw [decide_eq_true ⟨rfl, fun _ _ => rfl⟩] at c
  exact c
set_option maxHeartbeats 1000000 in
theorem awake_any (w : World) : Calls Try.prog 7 #[] w (AwakePost w) := by
  go_enter Try.func7, Try.ntmps7
  go_wp2_with fail
  refine (put1 _).mono ?_
  rintro e w1 ⟨rfl, b1⟩
  have B1 := Lib.hid b1
  clear b1
  go_wp2_with fail
  refine (put2 _).mono ?_
  rintro e w2 ⟨rfl, b2⟩
  have B2 := Lib.hid (B1.out.trans (b2.mono B1.out.size))
  clear b2 B1
  go_wp2_with fail
  refine (put3 _).mono ?_
  rintro e w3 ⟨rfl, b2⟩
  have B3 := Lib.hid (B2.out.trans (b2.mono B2.out.size))
  clear b2 B2
  go_wp2_with fail
  refine (put4 _).mono ?_
  rintro e w4 ⟨rfl, b2⟩
  have B4 := Lib.hid (B3.out.trans (b2.mono B3.out.size))
  clear b2 B3
  go_wp2_with fail
  refine (get1 _).mono ?_
  rintro e w5 ⟨rfl, b2⟩
  have B5 := Lib.hid (B4.out.trans (b2.mono B4.out.size))
  clear b2 B4
  unfold zeros
  go_wp2_with fail
  refine (get2 _).mono ?_
  rintro e w6 ⟨rfl, b2⟩
  have B6 := Lib.hid ((B5.out.alloc B5.out.size _).trans (b2.mono (by have := B5.out.size; simp; omega)))
  clear b2 B5
  unfold zeros
  go_wp2_with fail
  refine (split1 _).mono ?_
  rintro e w7 ⟨A, cap, rfl, hs, b2⟩
  have B7 := Lib.hid ((B6.out.alloc B6.out.size _).trans (b2.mono (by have := B6.out.size; simp; omega)))
  have HS := Lib.hid hs
  clear b2 B6 hs
  go_wp2_with fail
  refine (join1 _ _).mono ?_
  rintro e w8 ⟨rfl, b2⟩
  have hs8 := HS.out.below b2 (Nat.le_refl _)
  have B8 := Lib.hid (B7.out.trans (b2.mono B7.out.size))
  have HS8 := Lib.hid hs8
  clear b2 B7 HS hs8
  go_wp2_with fail
  refine (same1 w8 A cap 3 HS8.out).mono ?_
  rintro e w9 ⟨rfl, k9, rfl⟩
  go_wp2_with fail
  refine (whole1 _).mono ?_
  rintro e w10 ⟨rfl, k10, rfl⟩
  go_wp2_with fail
  go_ret
  refine ⟨rfl, ?_⟩
  have b9 := (B8.out.alloc B8.out.size (.cells #[.string ⟨#[2, 3, 7]⟩, .string ⟨#[]⟩, .string ⟨#[97]⟩] 9)).trans (below_drewN _ k9)
  refine b9.trans ?_
  rw [← drew2]
  exact below_drewN _ _
end Go.Proofs.Ytccakpbgmgogeaa
