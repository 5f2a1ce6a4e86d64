/- The walk of raw's Put. -/
import Derived.Test.YtccakpbgmgogeaaRawI
namespace Go.Proofs.Ytccakpbgmgogeaa
open Go.RowKit RawPlain

theorem own_conv {w : World} {B n : Nat} {v : Value} {xs : List UInt8} (h : w.ownsRow B 5 1 v n (xs.map BV)) (hn : 0 < n) : (convert 38 9 v).run Try.prog w = .ok (.string (bs xs)) w := by
  obtain ⟨hl, ⟨rfl, rfl⟩ | ⟨g, cap, cur, rfl, hb, hg, hc, hm, hs, ht⟩⟩ := h
  · omega
  · have hlen : n = xs.length := by simpa using hl.symm
    subst hlen
    exact run_convert_bytes_back w 38 9 5 ⟨g, 0, none⟩ cap xs Try.underlying38 Try.underlying5 Try.underlying9 (fun j hj => by
      have hadd : (⟨g, 0, none⟩ : Addr).add j = ⟨g, j, none⟩ := by unfold Addr.add; split <;> simp_all
      rw [hadd, cell_of_row w g j cur 5 (0, 0) hg]
      have h1 : (cur.toList.take (xs.length * 1))[j]? = some (BV xs[j]) := by
        rw [ht, List.getElem?_map, List.getElem?_eq_getElem hj]; rfl
      rw [List.getElem?_take_of_lt (by omega)] at h1
      rw [← Array.getElem?_toList]; exact h1)
theorem own_made {w : World} {B : Nat} (hB : B ≤ w.heap.size) (a b c : UInt8) : (w.alloc (.cells #[BV a, BV b, BV c] 5)).ownsRow B 5 1 (.slice (some ⟨w.heap.size, 0, none⟩) 3 3) 3 ([a, b, c].map BV) :=
  ⟨rfl, .inr ⟨w.heap.size, 3, _, rfl, hB, heap_alloc_new w _, Nat.le_refl _, by unfold maxLen; omega, rfl, rfl⟩⟩
theorem put_int (B : Nat) (w : World) (v : Value) (n : Nat) (xs : List UInt8) (z M : Int) (m : Nat) (hM : M = m) (h0 : 0 ≤ z) (hm : m ≤ 8) (hn : n ≤ 1000) (ho : w.ownsRow B 5 1 v n (xs.map BV)) (hB : B ≤ w.heap.size) :
    Calls Try.prog 21 #[v, .int .u64 z, .int .i64 M] w fun e w' => ∃ v', e = .returned v' ∧ w'.ownsRow B 5 1 v' (n + m) ((xs ++ be m z.toNat).map BV) ∧ Below B w w' := by
  subst hM
  have := put_any B w v n xs z.toNat m hm hn ho hB
  rwa [Int.toNat_of_nonneg h0] at this
@[reducible] def SO (w : World) (x : E) (w' : World) : Prop := w.heap.size + 2 ≤ w'.heap.size ∧ Below w.heap.size w w' ∧ w'.cell? ⟨w.heap.size + 1, 0, none⟩ = some (.int .u8 x.code) ∧ w'.cell? ⟨w.heap.size + 1, 1, none⟩ = some (.int .u64 x.h) ∧ w'.cell? ⟨w.heap.size + 1, 2, none⟩ = some (.int .i64 x.a) ∧ w'.cell? ⟨w.heap.size + 1, 3, none⟩ = some (.int .i64 x.b) ∧ w'.cell? ⟨w.heap.size + 1, 4, none⟩ = some (.int .u64 x.v)
theorem SO.drew {w w1 : World} {x : E} (h : SO w x w1) : SO w x w1.drew := ⟨h.1, h.2.1.drew, h.2.2⟩
theorem SO.keep {w w1 w2 : World} {x : E} (h : SO w x w1) (hb : Below (w.heap.size + 2) w1 w2) : SO w x w2 := by
  obtain ⟨h0, hB, c0, c1, c2, c3, c4⟩ := h
  have k : ∀ i, w2.cell? ⟨w.heap.size + 1, i, none⟩ = w1.cell? ⟨w.heap.size + 1, i, none⟩ := fun i => hb.cell (p := ⟨w.heap.size + 1, i, none⟩) (Nat.lt_succ_self _)
  exact ⟨Nat.le_trans h0 hb.size, hB.trans (hb.mono (by omega)), (k 0).trans c0, (k 1).trans c1, (k 2).trans c2, (k 3).trans c3, (k 4).trans c4⟩
set_option maxHeartbeats 1000000 in
theorem put_op (x : E) (hw : x.Wf) (h : isOp x) (w : World) :
    Calls Try.prog 8 #[.agg (ev x).toArray] w (PutPost x w) := by
  have hx : putS x = opB x ∧ putN x = 0 := by
    unfold putS putN putL
    rw [if_pos h]; exact ⟨rfl, rfl⟩
  obtain ⟨h1, h2, h3, h4, h5, h6, h7⟩ := h
  obtain ⟨b1, b2, b3, b4, b5, b6, b7, b8, b9, b10, b11, b12, b13, b14, b15, b16, b17, b18⟩ := hw
  obtain ⟨K, T, C, H, A, B, V, W, M⟩ := x
  simp only at *
  subst h1 h4 h5
  have ct := fun w => byteful_any T w
  rw [decide_eq_true h2, decide_eq_true (show T ≤ 255 by omega)] at ct
  have ca := fun w => fours_any A w b9 b10
  rw [decide_eq_true h6] at ca
  have cb := fun w => fours_any B w b11 b12
  rw [decide_eq_true h7] at cb
  show Calls _ _ #[.agg #[.int .u8 1, .int .i64 T, .int .u8 C, .int .u64 H, .int .i64 A, .int .i64 B, .int .u64 V, .int .i64 0, .int .u8 0]] w _
  have vT : BV (UInt8.ofNat T.toNat) = .int .u8 T := by unfold BV; rw [UInt8.toNat_ofNat']; congr 1; omega
  have vC : BV (UInt8.ofNat C.toNat) = .int .u8 C := by unfold BV; rw [UInt8.toNat_ofNat']; congr 1; omega
  go_enter Try.func8, Try.ntmps8
  go_wp2_with (first
    | (go_at_call 19; refine (ct _).mono ?_; rintro e w' ⟨rfl, rfl⟩)
    | (go_at_call 20; (first | (with_reducible refine (ca _).mono ?_) | (with_reducible refine (cb _).mono ?_)); rintro e w' ⟨rfl, rfl⟩))
  have hs0 : SO w ⟨1, T, C, H, A, B, V, 0, 0⟩ (((w.alloc (.cells #[.int .u8 1, .int .i64 T, .int .u8 C, .int .u64 H, .int .i64 A, .int .i64 B, .int .u64 V, .int .i64 0, .int .u8 0] 26)).alloc (.cells #[.int .u8 C, .int .u64 H, .int .i64 A, .int .i64 B, .int .u64 V] 24)).alloc (.cells #[.int .u8 1, .int .u8 T, .int .u8 C] 5)) := by
    have h1 := heap_alloc_new (w.alloc (.cells #[.int .u8 1, .int .i64 T, .int .u8 C, .int .u64 H, .int .i64 A, .int .i64 B, .int .u64 V, .int .i64 0, .int .u8 0] 26)) (.cells #[.int .u8 C, .int .u64 H, .int .i64 A, .int .i64 B, .int .u64 V] 24)
    have h2 := heap_alloc_old h1 (.cells #[.int .u8 1, .int .u8 T, .int .u8 C] 5)
    rw [show (w.alloc (.cells #[.int .u8 1, .int .i64 T, .int .u8 C, .int .u64 H, .int .i64 A, .int .i64 B, .int .u64 V, .int .i64 0, .int .u8 0] 26)).heap.size = w.heap.size + 1 from by simp] at h2
    exact ⟨by simp, (((Below.refl w.heap.size w).alloc (Nat.le_refl _) _).alloc (by simp) _).alloc (by simp; omega) _, cell_of_row _ _ 0 _ _ _ h2, cell_of_row _ _ 1 _ _ _ h2, cell_of_row _ _ 2 _ _ _ h2, cell_of_row _ _ 3 _ _ _ h2, cell_of_row _ _ 4 _ _ _ h2⟩
  have o0 := own_made (w := (w.alloc (.cells #[.int .u8 1, .int .i64 T, .int .u8 C, .int .u64 H, .int .i64 A, .int .i64 B, .int .u64 V, .int .i64 0, .int .u8 0] 26)).alloc (.cells #[.int .u8 C, .int .u64 H, .int .i64 A, .int .i64 B, .int .u64 V] 24)) (B := w.heap.size + 2) (by simp) 1 (UInt8.ofNat T.toNat) (UInt8.ofNat C.toNat)
  rw [vT, vC, show ((w.alloc (.cells #[.int .u8 1, .int .i64 T, .int .u8 C, .int .u64 H, .int .i64 A, .int .i64 B, .int .u64 V, .int .i64 0, .int .u8 0] 26)).alloc (.cells #[.int .u8 C, .int .u64 H, .int .i64 A, .int .i64 B, .int .u64 V] 24)).heap.size = w.heap.size + 1 + 1 from by simp] at o0
  refine (put_int (w.heap.size + 2) _ _ 3 [1, UInt8.ofNat T.toNat, UInt8.ofNat C.toNat] H 8 8 rfl b7 (by omega) (by omega) o0 hs0.1).mono ?_
  rintro e w1 ⟨v1, rfl, ho1, hb1⟩
  have hs1 := (hs0.keep hb1).drew
  have wA : IntKind.u64.wrap A = A % 18446744073709551616 := IntKind.wrap_u64 _
  have wB : IntKind.u64.wrap B = B % 18446744073709551616 := IntKind.wrap_u64 _
  have zA0 : 0 ≤ A % 18446744073709551616 := by omega
  have zB0 : 0 ≤ B % 18446744073709551616 := by omega
  have HE := Lib.hid (And.intro (be_lo4 A) (be_lo4 B))
  generalize A % 18446744073709551616 = zA at *
  generalize B % 18446744073709551616 = zB at *
  have HO1 := Lib.hid ho1
  have HS1 := Lib.hid hs1
  have HX := Lib.hid hx
  have HV := Lib.hid b13
  clear hs0 o0 ho1 hb1 hs1 hx vT vC h2 h3 h6 h7 b1 b2 b3 b4 b5 b6 b7 b8 b9 b10 b11 b12 b13 b14 b15 b16 b17 b18 ca cb ct
  go_wp2_with fail
  have hs := HS1.out
  unfold SO at hs
  simp only at hs
  clear HS1
  have Ho1 : Hid (w1.drew.ownsRow (w.heap.size + 2) 5 1 v1 (3 + 8) (([1, UInt8.ofNat T.toNat, UInt8.ofNat C.toNat] ++ be 8 H.toNat).map BV)) := HO1
  go_region_held3 (fun w' => w.heap.size + 2 ≤ w'.heap.size ∧ Below w.heap.size w w' ∧ w'.cell? ⟨w.heap.size + 1, 0, none⟩ = some (.int .u8 C) ∧ w'.cell? ⟨w.heap.size + 1, 1, none⟩ = some (.int .u64 H) ∧ w'.cell? ⟨w.heap.size + 1, 2, none⟩ = some (.int .i64 A) ∧ w'.cell? ⟨w.heap.size + 1, 3, none⟩ = some (.int .i64 B) ∧ w'.cell? ⟨w.heap.size + 1, 4, none⟩ = some (.int .u64 V)) (first | assumption | go_keep)
    (first
      | (go_at_call 21; (with_reducible refine (put_int (w.heap.size + 2) _ v1 (3 + 8) _ zA 4 4 rfl zA0 (by decide) (by decide) Ho1.out hs.1).mono ?_); rintro e w2 ⟨v2, rfl, ho2, hb2⟩; have hs2 := SO.keep (x := ⟨1, T, C, H, A, B, V, 0, 0⟩) hs hb2; have Ho2 := Lib.hid ho2; clear ho2; unfold SO at hs2; simp only at hs2)
      | (go_at_call 21; (with_reducible refine (put_int (w.heap.size + 2) _ v2 (3 + 8 + 4) _ zB 4 4 rfl zB0 (by decide) (by decide) Ho2.out hs2.1).mono ?_); rintro e w3 ⟨v3, rfl, ho3, hb3⟩; have hs3 := SO.keep (x := ⟨1, T, C, H, A, B, V, 0, 0⟩) hs2 hb3; have Ho3 := Lib.hid ho3; clear ho3; unfold SO at hs3; simp only at hs3))
  have hv3 := hs3.2.2.2.2.2.2
  have HS3 := Lib.hid hs3
  clear hs hs2 hs3 hb2 hb3 Ho1 Ho2
  go_wp2_with fail
  refine (put_int (w.heap.size + 2) _ v3 (3 + 8 + 4 + 4) _ V 8 8 rfl HV.out (by decide) (by decide) Ho3.out HS3.out.1).mono ?_
  rintro e w4 ⟨v4, rfl, ho4, hb4⟩
  have hcv := own_conv ho4 (by omega)
  have HB := Lib.hid (HS3.out.2.1.trans (hb4.mono (by omega)))
  rw [HE.out.1, HE.out.2] at hcv
  clear ho4 hb4 hv3
  go_wp2_with fail
  go_ret2
  exact ⟨by rw [HX.out.1, HX.out.2]; rfl, HB.out⟩
theorem put_step (x : E) (hw : x.Wf) (h : isStep x) (w : World) :
    Calls Try.prog 8 #[.agg (ev x).toArray] w (PutPost x w) := by
  have hno : ¬ isOp x := fun k => by have h1 := k.1; have h2 := h.1; omega
  have hx : putS x = stepB x ∧ putN x = 0 := by
    unfold putS putN putL
    rw [if_neg hno, if_pos h]; exact ⟨rfl, rfl⟩
  obtain ⟨h1, h2, h3, h4, h5, h6, h7, h8, h9⟩ := h
  have m0 := hw.micro0
  have m1 := hw.micro1
  obtain ⟨K, T, C, H, A, B, V, W, M⟩ := x
  simp only at *
  subst h1 h4 h5 h6 h7 h8 h9
  have ct := fun w => byteful_any W w
  rw [decide_eq_true h2, decide_eq_true (show W ≤ 255 by omega)] at ct
  have vW : BV (UInt8.ofNat W.toNat) = .int .u8 W := by unfold BV; rw [UInt8.toNat_ofNat']; congr 1; omega
  have vM : BV (UInt8.ofNat M.toNat) = .int .u8 M := by unfold BV; rw [UInt8.toNat_ofNat']; congr 1; omega
  have cv : ∀ w0 : World, (convert 38 9 (.slice (some ⟨w0.heap.size, 0, none⟩) 3 3)).run Try.prog (w0.alloc (.cells #[.int .u8 2, .int .u8 W, .int .u8 M] 5)) = .ok (.string (bs [2, UInt8.ofNat W.toNat, UInt8.ofNat M.toNat])) (w0.alloc (.cells #[.int .u8 2, .int .u8 W, .int .u8 M] 5)) := by
    intro w0
    have o0 := own_made (w := w0) (B := 0) (Nat.zero_le _) 2 (UInt8.ofNat W.toNat) (UInt8.ofNat M.toNat)
    rw [vW, vM] at o0
    exact own_conv o0 (by omega)
  have cv := cv ((w.alloc (.cells #[.int .u8 2, .int .i64 0, .int .u8 0, .int .u64 0, .int .i64 0, .int .i64 0, .int .u64 0, .int .i64 W, .int .u8 M] 26)).alloc (.cells #[.int .u8 0, .int .u64 0, .int .i64 0, .int .i64 0, .int .u64 0] 24))
  rw [show ((w.alloc (.cells #[.int .u8 2, .int .i64 0, .int .u8 0, .int .u64 0, .int .i64 0, .int .i64 0, .int .u64 0, .int .i64 W, .int .u8 M] 26)).alloc (.cells #[.int .u8 0, .int .u64 0, .int .i64 0, .int .i64 0, .int .u64 0] 24)).heap.size = w.heap.size + 1 + 1 from by simp] at cv
  show Calls _ _ #[.agg #[.int .u8 2, .int .i64 0, .int .u8 0, .int .u64 0, .int .i64 0, .int .i64 0, .int .u64 0, .int .i64 W, .int .u8 M]] w _
  have HX := Lib.hid hx
  clear hx hno hw vW vM
  go_enter Try.func8, Try.ntmps8
  go_wp2_with (go_at_call 19; refine (ct _).mono ?_; rintro e w' ⟨rfl, rfl⟩)
  go_ret2
  exact ⟨by rw [HX.out.1, HX.out.2]; rfl, (((Below.refl w.heap.size w).alloc (Nat.le_refl _) _).alloc (by simp) _).alloc (by simp; omega) _⟩
end Go.Proofs.Ytccakpbgmgogeaa
