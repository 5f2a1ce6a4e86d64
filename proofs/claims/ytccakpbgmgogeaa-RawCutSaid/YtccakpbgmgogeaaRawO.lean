/- The walk of RawCut. -/
import Derived.Test.YtccakpbgmgogeaaRawN
import Derived.Deep.RegionWith
import Derived.Deep.DeepCutAuto
namespace Go.Proofs.Ytccakpbgmgogeaa
open Go.RowKit RawPlain

theorem conv_at (w : World) (g : Nat) (c : Int) (h0 : 0 ≤ c) (h1 : c < 256) (h : w.heap[g]? = some (.cells #[.int .u8 c] 5 (0, 0))) : (convert 38 9 (.slice (some ⟨g, 0, none⟩) 1 1)).run Try.prog w = .ok (.string (bs [UInt8.ofNat c.toNat])) w := by
  have hv : ((UInt8.ofNat c.toNat).toNat : Int) = c := by rw [UInt8.toNat_ofNat']; omega
  exact run_convert_bytes_back w 38 9 5 ⟨g, 0, none⟩ 1 [UInt8.ofNat c.toNat] Try.underlying38 Try.underlying5 Try.underlying9 (fun j hj => by
    obtain rfl : j = 0 := by simp at hj; omega
    show w.cell? ⟨g, 0 + 0, none⟩ = some (.int .u8 ((UInt8.ofNat c.toNat).toNat : Int))
    rw [hv, cell_of_row _ _ _ _ _ _ h]; rfl)
theorem get_bad (l : List UInt8) (hl : l.length ≤ 100000) (h : getL l = none) (w : World) : Calls Try.prog 10 #[.string (bs l)] w fun e w' => e = .returned (.tuple #[.agg zeros, .int .i64 250]) ∧ Below w.heap.size w w' := by
  have := get_any l hl w
  unfold GetPost at this
  rw [(get_none_E h).1, (get_none_E h).2] at this
  exact this
set_option maxRecDepth 100000 in
set_option maxHeartbeats 4000000 in
theorem cut_walk (x : E) (hw : x.Wf) (p c : Int) (p0 : 0 ≤ p) (p1 : p ≤ 255) (c0 : 0 ≤ c) (c1 : c ≤ 255) (W : World) :
    Calls Try.prog 4 #[.agg (ev x).toArray, .int .u8 p, .int .u8 c] W (LawPost W) := by
  show Calls _ _ #[.agg #[.int .u8 x.kind, .int .i64 x.tenant, .int .u8 x.code, .int .u64 x.h, .int .i64 x.a, .int .i64 x.b, .int .u64 x.v, .int .i64 x.worker, .int .u8 x.micro], .int .u8 p, .int .u8 c] W _
  cases hp : putL x with
  | none =>
    have cP : ∀ w, Calls Try.prog 8 #[.agg #[.int .u8 x.kind, .int .i64 x.tenant, .int .u8 x.code, .int .u64 x.h, .int .i64 x.a, .int .i64 x.b, .int .u64 x.v, .int .i64 x.worker, .int .u8 x.micro]] w fun e w' => e = .returned (.tuple #[.string ⟨#[]⟩, .int .i64 2]) ∧ Below w.heap.size w w' := fun w => by
      have := put_full x hw w
      unfold PutPost at this
      rw [show putS x = [] from by unfold putS; rw [hp]; rfl, show putN x = 2 from by unfold putN; rw [hp]; rfl] at this
      exact this
    clear hp hw
    go_enter Try.func4, Try.ntmps4
    go_wp2_with fail
    refine (cP _).mono ?_
    rintro e w1 ⟨rfl, b1⟩
    have B1 := Lib.hid (bel2 ((Below.refl W.heap.size W).alloc (Nat.le_refl _) (.cells #[.int .u8 x.kind, .int .i64 x.tenant, .int .u8 x.code, .int .u64 x.h, .int .i64 x.a, .int .i64 x.b, .int .u64 x.v, .int .i64 x.worker, .int .u8 x.micro] 26)) b1 (by simp))
    clear b1
    go_wp2_with fail
    refine (awake_any _).mono ?_
    rintro e w2 ⟨rfl, b2⟩
    have B2 := Lib.hid (bel2 B1.out b2 B1.out.size)
    clear b2
    go_wp2_with fail
    go_ret
    exact ⟨rfl, B2.out⟩
  | some a =>
    have cP : ∀ w, Calls Try.prog 8 #[.agg #[.int .u8 x.kind, .int .i64 x.tenant, .int .u8 x.code, .int .u64 x.h, .int .i64 x.a, .int .i64 x.b, .int .u64 x.v, .int .i64 x.worker, .int .u8 x.micro]] w fun e w' => e = .returned (.tuple #[.string (bs a), .int .i64 0]) ∧ Below w.heap.size w w' := fun w => by
      have := put_full x hw w
      unfold PutPost at this
      rw [show putS x = a from by unfold putS; rw [hp]; rfl, show putN x = 0 from by unfold putN; rw [hp]; rfl] at this
      exact this
    have hlen := put_len hp
    have ha : 3 ≤ a.length ∧ a.length ≤ 27 := by omega
    obtain ⟨k, hk⟩ : ∃ k : Nat, p % (a.length : Int) = k := ⟨(p % (a.length : Int)).toNat, by have := Int.emod_nonneg p (show (a.length : Int) ≠ 0 by omega); omega⟩
    have hk1 : k < a.length := by
      have := Int.emod_lt_of_pos p (show (0 : Int) < a.length by omega)
      omega
    have hc8 : (UInt8.ofNat c.toNat).toNat = c.toNat := by rw [UInt8.toNat_ofNat']; omega
    have g1 := get_bad (a.take k ++ a.drop (k + 1)) (by simp; omega) (get_none (by simp; omega) (by simp; omega))
    have g2 := get_bad (a.take k ++ [UInt8.ofNat c.toNat] ++ a.drop k) (by simp; omega) (get_none (by simp; omega) (by simp; omega))
    have g3 := get_bad (a.take k) (by simp; omega) (get_take hp hk1)
    have x1 : (bs a).extract 0 k = bs (a.take k) := by rw [bs_extract, List.drop_zero]
    have x2 : (bs a).extract (k + 1) a.length = bs (a.drop (k + 1)) := by rw [bs_extract, List.take_length]
    have x3 : (bs a).extract k a.length = bs (a.drop k) := by rw [bs_extract, List.take_length]
    have a1 : bs (a.take k) ++ bs (a.drop (k + 1)) = bs (a.take k ++ a.drop (k + 1)) := bs_append _ _
    have a2 : bs (a.take k) ++ bs [UInt8.ofNat c.toNat] = bs (a.take k ++ [UInt8.ofNat c.toNat]) := bs_append _ _
    have a3 : bs (a.take k ++ [UInt8.ofNat c.toNat]) ++ bs (a.drop k) = bs (a.take k ++ [UInt8.ofNat c.toNat] ++ a.drop k) := bs_append _ _
    have r1 : ∀ w, (Op.stringOp .add (bs (a.take k)) (bs (a.drop (k + 1)))).run Try.prog w = .ok (.string (bs (a.take k ++ a.drop (k + 1)))) w := fun w => by rw [run_string_add_sum w _ _ (by rw [bs_size, bs_size]; simp; omega), a1]
    have r2 : ∀ w, (Op.stringOp .add (bs (a.take k)) (bs [UInt8.ofNat c.toNat])).run Try.prog w = .ok (.string (bs (a.take k ++ [UInt8.ofNat c.toNat]))) w := fun w => by rw [run_string_add_sum w _ _ (by rw [bs_size, bs_size]; simp; omega), a2]
    have r3 : ∀ w, (Op.stringOp .add (bs (a.take k ++ [UInt8.ofNat c.toNat])) (bs (a.drop k))).run Try.prog w = .ok (.string (bs (a.take k ++ [UInt8.ofNat c.toNat] ++ a.drop k))) w := fun w => by rw [run_string_add_sum w _ _ (by rw [bs_size, bs_size]; simp; omega), a3]
    clear a1 a2 a3
    have hsz : (bs a).size = a.length := rfl
    generalize bs (a.take k ++ [UInt8.ofNat c.toNat] ++ a.drop k) = s6 at *
    generalize bs (a.take k ++ [UInt8.ofNat c.toNat]) = s5 at *
    generalize bs (a.take k ++ a.drop (k + 1)) = s4 at *
    generalize bs (a.take k) = s1 at *
    generalize bs (a.drop (k + 1)) = s2 at *
    generalize bs (a.drop k) = s3 at *
    generalize bs a = s at *
    generalize a.length = n at *
    have hn0 : ((n : Int) == 0) = false := by rw [beq_eq_false_iff_ne]; omega
    unfold zeros at g1 g2 g3
    clear hp hw hlen hc8 a
    go_enter Try.func4, Try.ntmps4
    go_wp2_with fail
    refine (cP _).mono ?_
    rintro e w1 ⟨rfl, b1⟩
    have B1 := Lib.hid (bel2 ((Below.refl W.heap.size W).alloc (Nat.le_refl _) (.cells #[.int .u8 x.kind, .int .i64 x.tenant, .int .u8 x.code, .int .u64 x.h, .int .i64 x.a, .int .i64 x.b, .int .u64 x.v, .int .i64 x.worker, .int .u8 x.micro] 26)) b1 (by simp))
    clear b1 cP
    have i0 : (0 : Int) ≤ (k : Int) := by clear hk hn0; omega
    have i1 : (k : Int) ≤ (n : Int) := by clear hk hn0; omega
    have i2 : (0 : Int) ≤ (k : Int) + 1 := by clear hk hn0; omega
    have i3 : (k : Int) + 1 ≤ (n : Int) := by clear hk hn0; omega
    have i4 : ((k : Int) + 1).toNat = k + 1 := by clear hk hn0; omega
    have i5 : IntKind.i64.wrap ((k : Int) + 1) = (k : Int) + 1 := by clear hk hn0; exact IntWalk.i64_in _ (by omega)
    have I45 := Lib.hid (And.intro i4 i5)
    clear i4 i5
    go_upto_region 5 with fail
    rw [hk]
    clear hk
    go_cut [11] (fun v wx => v = .int .i64 250 ∧ Below W.heap.size W wx)
    case first =>
      have i4 := I45.out.1
      have i5 := I45.out.2
      go_region_with (go_at_call 10; (with_reducible refine (g1 _).mono ?_); rintro e w2 ⟨rfl, b2⟩; (try (have hz := (b2.block w1.heap.size (by simp)).trans (heap_alloc_new w1 _); have hcz := row9 (x := E.zero) hz; have hfz := fun i => frozen_row hz i; clear hz)))
      all_goals
        go_wp2_with fail
        go_meet
        refine ⟨rfl, ?_⟩
        first
          | exact (bel2 B1.out.drew b2 B1.out.size).alloc (Nat.le_trans B1.out.size b2.size) _
          | ((repeat (refine Below.setCell ?_ (show W.heap.size ≤ w1.heap.size from B1.out.size) _)); exact bel2 (B1.out.alloc B1.out.size _).drew b2 (by have := B1.out.size; simp; omega))
    case rest =>
      obtain ⟨rfl, h1⟩ := hcut
      have B2 := Lib.hid h1
      clear h1 r1 x2 B1
      have hcv1 := conv_at (wc.alloc (.cells #[.int .u8 c] 5)).drew wc.heap.size c c0 (by omega) (heap_alloc_new wc _)
      have hcv2 := conv_at ((wc.alloc (.cells #[.int .u8 0, .int .i64 0, .int .u8 0, .int .u64 0, .int .i64 0, .int .i64 0, .int .u64 0, .int .i64 0, .int .u8 0] 26)).alloc (.cells #[.int .u8 c] 5)).drew (wc.heap.size + 1) c c0 (by omega) (by have := heap_alloc_new (wc.alloc (.cells #[.int .u8 0, .int .i64 0, .int .u8 0, .int .u64 0, .int .i64 0, .int .i64 0, .int .u64 0, .int .i64 0, .int .u8 0] 26)) (.cells #[.int .u8 c] 5); rwa [show (wc.alloc (.cells #[.int .u8 0, .int .i64 0, .int .u8 0, .int .u64 0, .int .i64 0, .int .i64 0, .int .u64 0, .int .i64 0, .int .u8 0] 26)).heap.size = wc.heap.size + 1 from by simp] at this)
      have hcv3 := conv_at ((wc.alloc (.cells #[.int .u8 c] 5)).alloc (.cells #[.int .u8 0, .int .i64 0, .int .u8 0, .int .u64 0, .int .i64 0, .int .i64 0, .int .u64 0, .int .i64 0, .int .u8 0] 26)).drew wc.heap.size c c0 (by omega) (heap_alloc_old (heap_alloc_new wc _) _)
      have HZ1 := Lib.hid (heap_alloc_old (heap_alloc_new wc (.cells #[.int .u8 0, .int .i64 0, .int .u8 0, .int .u64 0, .int .i64 0, .int .i64 0, .int .u64 0, .int .i64 0, .int .u8 0] 26)) (.cells #[.int .u8 c] 5))
      have hZ2 := heap_alloc_new (wc.alloc (.cells #[.int .u8 c] 5)) (.cells #[.int .u8 0, .int .i64 0, .int .u8 0, .int .u64 0, .int .i64 0, .int .i64 0, .int .u64 0, .int .i64 0, .int .u8 0] 26)
      rw [show (wc.alloc (.cells #[.int .u8 c] 5)).heap.size = wc.heap.size + 1 from by simp] at hZ2
      have HZ2 := Lib.hid hZ2
      clear hZ2
      generalize bs [UInt8.ofNat c.toNat] = s0 at *
      go_upto_region 6 with fail
      go_cut [13] (fun v wx => v = .int .i64 250 ∧ Below W.heap.size W wx)
      case first =>
        go_region_with (go_at_call 10; (with_reducible refine (g2 _).mono ?_); rintro e w2 ⟨rfl, b2⟩; (first | (have hz := (b2.block wc.heap.size (by simp; omega)).trans HZ1.out; have hcz := row9 (x := E.zero) hz; have hfz := fun i => frozen_row hz i; clear hz) | (have hz := (b2.block (wc.heap.size + 1) (by simp)).trans HZ2.out; have hcz := row9 (x := E.zero) hz; have hfz := fun i => frozen_row hz i; clear hz) | skip))
        all_goals
          go_wp2_with fail
          go_meet
          refine ⟨rfl, ?_⟩
          first
            | exact (bel2 (B2.out.alloc B2.out.size _).drew b2 (by have := B2.out.size; simp; omega)).alloc (Nat.le_trans (Nat.le_trans B2.out.size (Nat.le_succ _)) (by have := b2.size; simpa using this)) _
            | ((repeat (refine Below.setCell ?_ (by have := B2.out.size; show _ ≤ _; simp only []; omega) _)); exact bel2 ((B2.out.alloc B2.out.size _).alloc (by have := B2.out.size; simp; omega) _).drew b2 (by have := B2.out.size; simp; omega))
      case rest =>
        obtain ⟨rfl, h3⟩ := hcut
        have B3 := Lib.hid h3
        clear h3 hcv1 hcv2 hcv3 HZ1 HZ2 B2
        go_wp2_with fail
        refine (g3 _).mono ?_
        rintro e w5 ⟨rfl, b5⟩
        have B5 := Lib.hid (bel2 B3.out b5 B3.out.size)
        clear b5 B3
        go_wp2_with fail
        refine (awake_any _).mono ?_
        rintro e w6 ⟨rfl, b6⟩
        have B6 := Lib.hid (bel2 (B5.out.alloc B5.out.size _) b6 (by have := B5.out.size; simp; omega))
        clear b6
        go_wp2_with fail
        go_ret
        exact ⟨rfl, B6.out⟩
end Go.Proofs.Ytccakpbgmgogeaa
