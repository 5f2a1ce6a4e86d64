/- The walk of the reference's Get. -/
import Derived.Test.YtccakpbgmgogeaaRawC
import Derived.Test.YtccakpbgmgogeaaRawG
import Derived.StillTailTactics
import Derived.Deep.RegionWith
namespace Go.Proofs.Ytccakpbgmgogeaa
open Go.RowKit RawPlain

theorem signed_any (l : List UInt8) (hl : l.length = 4) (w : World) :
    Calls Try.prog 29 #[.string (bs l)] w fun e w' => e = .returned (.int .i64 (sg (num l))) ∧ w = w' := by
  have c := number_any l (by omega)
  have hb := num_lt l
  rw [hl] at hb
  obtain ⟨Z, hZ⟩ : ∃ Z : Int, (num l : Int) = Z := ⟨_, rfl⟩
  have z0 : 0 ≤ Z := by omega
  have z1 : Z < 4294967296 := by omega
  have hs : sg (num l) = if 2147483648 ≤ Z then Z - 4294967296 else Z := by unfold sg; rw [← hZ]; split <;> split <;> omega
  rw [hs]
  rw [hZ] at c
  clear hZ hb hs
  by_cases h : 2147483648 ≤ Z
  · rw [if_pos h]
    go_enter Try.func29, Try.ntmps29
    go_wp2_with (go_at_call 28; refine (c _).mono ?_; rintro e w' ⟨rfl, rfl⟩)
    go_ret
    exact ⟨rfl, rfl⟩
  · rw [if_neg h]
    go_enter Try.func29, Try.ntmps29
    go_wp2_with (go_at_call 28; refine (c _).mono ?_; rintro e w' ⟨rfl, rfl⟩)
    go_ret
    exact ⟨rfl, rfl⟩
/-- what the reference's Get gives -/
def RGetPost (l : List UInt8) (w : World) (e : Ending) (w' : World) : Prop := e = .returned (.tuple #[.agg (ev (getE l)).toArray, .int .i64 (getN l)]) ∧ Below w.heap.size w w'
theorem get_none4 {a : UInt8} {r : List UInt8} (ha : a.toNat ≠ 2) (h : (a :: r).length ≠ 27) : getL (a :: r) = none := by
  unfold getL
  rw [if_neg, if_neg (fun x => h x.1)]
  rintro ⟨_, x⟩
  have : a = 2 := x
  subst this
  exact ha rfl
theorem get_none5 {a : UInt8} {r : List UInt8} (ha : a.toNat ≠ 1) (h : (a :: r).length ≠ 3) : getL (a :: r) = none := by
  unfold getL
  rw [if_neg (fun x => h x.1), if_neg]
  rintro ⟨_, x⟩
  have : a = 1 := x
  subst this
  exact ha rfl
theorem rget_bad (l : List UInt8) (h3 : l.length ≠ 3) (h27 : l.length ≠ 27) (w : World) :
    Calls Try.prog 11 #[.string (bs l)] w (RGetPost l w) := by
  have hE := get_none_E (get_none h3 h27)
  have hsz : (bs l).size = l.length := rfl
  have e3 : ((l.length : Int) == 3) = false := by rw [beq_eq_false_iff_ne]; omega
  have e27 : ((l.length : Int) == 27) = false := by rw [beq_eq_false_iff_ne]; omega
  go_enter Try.func11, Try.ntmps11
  go_wp2_with fail
  refine bodyPost_ret (v := .tuple #[.agg (ev (getE l)).toArray, .int .i64 (getN l)]) (by rw [hE.1, hE.2]; simp [results, Try.results11, go_sem]; rfl) rfl ⟨rfl, (Below.refl _ _).alloc (Nat.le_refl _) _⟩
theorem rget_three (a b c : UInt8) (w : World) :
    Calls Try.prog 11 #[.string (bs [a, b, c])] w (RGetPost [a, b, c] w) := by
  have hsz : (bs [a, b, c]).size = 3 := rfl
  have i0 : 0 < (bs [a, b, c]).size := by rw [hsz]; omega
  have i1 : 1 < (bs [a, b, c]).size := by rw [hsz]; omega
  have i2 : 2 < (bs [a, b, c]).size := by rw [hsz]; omega
  have g0 : (bs [a, b, c])[0]'i0 = a := rfl
  have g1 : (bs [a, b, c])[1]'i1 = b := rfl
  have g2 : (bs [a, b, c])[2]'i2 = c := rfl
  obtain ⟨A, hA⟩ : ∃ A, a.toNat = A := ⟨_, rfl⟩
  have hA0 : A < 256 := by rw [← hA]; exact a.toNat_lt
  by_cases h : A = 2
  · subst h
    have hE := get_some_E (get_two hA (a := b) (b := c))
    go_enter Try.func11, Try.ntmps11
    go_wp2_with fail
    go_region
    go_wp2_with fail
    have hwb : wrap64 (b.toNat : Int) = b.toNat := wrap64_id (by have := b.toNat_lt; omega) (by have := b.toNat_lt; omega)
    refine bodyPost_ret (v := .tuple #[.agg (ev (getE [a, b, c])).toArray, .int .i64 (getN [a, b, c])]) (by rw [hE.1, hE.2]; simp [results, Try.results11, go_sem, hwb]; rfl) rfl ⟨rfl, ((Below.refl w.heap.size w).alloc (Nat.le_refl _) _).drew⟩
  · have hE := get_none_E (get_none4 (a := a) (r := [b, c]) (by rw [hA]; exact h) (by rw [List.length_cons, List.length_cons, List.length_cons]; decide))
    have e2 : ((A : Int) == 2) = false := by rw [beq_eq_false_iff_ne]; omega
    go_enter Try.func11, Try.ntmps11
    go_wp2_with fail
    refine bodyPost_ret (v := .tuple #[.agg (ev (getE [a, b, c])).toArray, .int .i64 (getN [a, b, c])]) (by rw [hE.1, hE.2]; simp [results, Try.results11, go_sem]; rfl) rfl ⟨rfl, (Below.refl _ _).alloc (Nat.le_refl _) _⟩
set_option maxHeartbeats 1000000 in
theorem rget_more (a b c : UInt8) (r : List UInt8) (hr : r.length = 24) (w : World) :
    Calls Try.prog 11 #[.string (bs (a :: b :: c :: r))] w (RGetPost (a :: b :: c :: r) w) := by
  have hsz : (bs (a :: b :: c :: r)).size = 27 := by rw [bs_size, List.length_cons, List.length_cons, List.length_cons, hr]
  have x1 : (bs (a :: b :: c :: r)).extract 3 11 = bs (r.take 8) := by rw [bs_extract]; rfl
  have x2 : (bs (a :: b :: c :: r)).extract 11 15 = bs ((r.drop 8).take 4) := by rw [bs_extract, List.drop_take]; rfl
  have x3 : (bs (a :: b :: c :: r)).extract 15 19 = bs (((r.drop 8).drop 4).take 4) := by rw [bs_extract, List.drop_take, List.drop_drop]; rfl
  have x4 : (bs (a :: b :: c :: r)).extract 19 27 = bs ((((r.drop 8).drop 4).drop 4).take 8) := by rw [bs_extract, List.drop_take, List.drop_drop, List.drop_drop]; rfl
  have c1 := fun w => (number_any (r.take 8) (by simp; omega) w).mono (fun e w' h => (⟨h.1, h.2.symm⟩ : _ ∧ w' = w))
  have c2 := fun w => (signed_any ((r.drop 8).take 4) (by simp; omega) w).mono (fun e w' h => (⟨h.1, h.2.symm⟩ : _ ∧ w' = w))
  have c3 := fun w => (signed_any (((r.drop 8).drop 4).take 4) (by simp; omega) w).mono (fun e w' h => (⟨h.1, h.2.symm⟩ : _ ∧ w' = w))
  have c4 := fun w => (number_any ((((r.drop 8).drop 4).drop 4).take 8) (by simp; omega) w).mono (fun e w' h => (⟨h.1, h.2.symm⟩ : _ ∧ w' = w))
  obtain ⟨A, hA⟩ : ∃ A, a.toNat = A := ⟨_, rfl⟩
  have hA0 : A < 256 := by rw [← hA]; exact a.toNat_lt
  have hg1 := fun (h : A = 1) => get_some_E (get_one (k := a) (t := b) (c := c) (r := r) (by rw [hA]; exact h) hr)
  have hg2 := fun (h : A ≠ 1) => get_none_E (get_none5 (a := a) (r := b :: c :: r) (by rw [hA]; exact h) (by rw [List.length_cons, List.length_cons, List.length_cons, hr]; decide))
  generalize bs (r.take 8) = s1 at *
  generalize bs ((r.drop 8).take 4) = s2 at *
  generalize bs (((r.drop 8).drop 4).take 4) = s3 at *
  generalize bs ((((r.drop 8).drop 4).drop 4).take 8) = s4 at *
  generalize (num (r.take 8) : Int) = n1 at *
  generalize sg (num ((r.drop 8).take 4)) = n2 at *
  generalize sg (num (((r.drop 8).drop 4).take 4)) = n3 at *
  generalize (num ((((r.drop 8).drop 4).drop 4).take 8) : Int) = n4 at *
  generalize hs : bs (a :: b :: c :: r) = s at *
  have i0 : 0 < s.size := by rw [hsz]; omega
  have i1 : 1 < s.size := by rw [hsz]; omega
  have i2 : 2 < s.size := by rw [hsz]; omega
  have g0 : ((s[0]'i0).toNat : Int) = (A : Int) := by subst hs; rw [← hA]; rfl
  have g1 : s[1]'i1 = b := by subst hs; rfl
  have g2 : s[2]'i2 = c := by subst hs; rfl
  have HG1 := Lib.hid hg1
  have HG2 := Lib.hid hg2
  clear hs hA hg1 hg2
  generalize a :: b :: c :: r = l at *
  by_cases h : A = 1
  · subst h
    have hE := HG1.out rfl
    go_enter Try.func11, Try.ntmps11
    go_wp2_with fail
    go_still_tail 19, (by kernel_rfl)
    still_call (c1 _)
    repeat still_step
    still_call (c2 _)
    repeat still_step
    still_call (c3 _)
    repeat still_step
    still_call (c4 _)
    repeat still_step
    refine wpStill_nil ?_
    change wpList _ _ _ _ _ (World.drew _)
    go_wp2_with fail
    have hwb : wrap64 (b.toNat : Int) = b.toNat := wrap64_id (by have := b.toNat_lt; omega) (by have := b.toNat_lt; omega)
    refine bodyPost_ret (v := .tuple #[.agg (ev (getE l)).toArray, .int .i64 (getN l)]) (by rw [hE.1, hE.2]; simp [results, Try.results11, go_sem, hwb]; rfl) rfl ⟨rfl, ((Below.refl w.heap.size w).alloc (Nat.le_refl _) _).drew⟩
  · have hE := HG2.out h
    have e2 : ((A : Int) == 1) = false := by rw [beq_eq_false_iff_ne]; omega
    go_enter Try.func11, Try.ntmps11
    go_wp2_with fail
    refine bodyPost_ret (v := .tuple #[.agg (ev (getE l)).toArray, .int .i64 (getN l)]) (by rw [hE.1, hE.2]; simp [results, Try.results11, go_sem]; rfl) rfl ⟨rfl, (Below.refl _ _).alloc (Nat.le_refl _) _⟩
theorem rget_any (l : List UInt8) (w : World) : Calls Try.prog 11 #[.string (bs l)] w (RGetPost l w) := by
  by_cases h3 : l.length = 3
  · match l, h3 with
    | [a, b, c], _ => exact rget_three a b c w
  · by_cases h27 : l.length = 27
    · match l, h27 with
      | a :: b :: c :: r, h => exact rget_more a b c r (by simpa using h) w
    · exact rget_bad l h3 h27 w
end Go.Proofs.Ytccakpbgmgogeaa
