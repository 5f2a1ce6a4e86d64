/- The walks of raw: numbers as bytes. -/
import Derived.Test.YtccakpbgmgogeaaRawB
import Derived.Test.YtccakpbgmgogeaaRawNum
import Derived.Laws.IdiomStrings
import Derived.IntWalk
namespace Go.Proofs.Ytccakpbgmgogeaa
open Go.RowKit RawPlain

theorem info5 : (Try.prog.info? 5).map (fun i => (i.zero, i.size, i.bytes)) = some (some (.int .u8 0), 1, 1) := by kernel_rfl
def BV (c : UInt8) : Value := .int .u8 (c.toNat : Int)

theorem fours_any (n : Int) (w : World) (h0 : -9223372036854775808 ≤ n) (h1 : n ≤ 9223372036854775807) : Calls Try.prog 20 #[.int .i64 n] w fun e w' => e = .returned (.bool (decide (four n))) ∧ w = w' := by
  go_enter Try.func20, Try.ntmps20
  go_wp2_with fail
  go_ret
  refine ⟨?_, rfl⟩
  have : (n == wrap64 (wrap32 n)) = decide (four n) := by
    rw [Bool.eq_iff_iff, beq_iff_eq, decide_eq_true_iff]
    unfold four wrap64 wrap32
    omega
  rw [← this]; rfl
theorem conv1 (w : World) (z : Int) (h0 : 0 ≤ z) (h1 : z < 256) : (convert 38 9 (.slice (some ⟨w.heap.size, 0, none⟩) 1 1)).run Try.prog (w.alloc (.cells #[.int .u8 z] 5)) = .ok (.string (bs [UInt8.ofNat z.toNat])) (w.alloc (.cells #[.int .u8 z] 5)) := by
  have h := run_convert_bytes_back (P := Try.prog) (w.alloc (.cells #[.int .u8 z] 5)) 38 9 5 ⟨w.heap.size, 0, none⟩ 1 [UInt8.ofNat z.toNat] Try.underlying38 Try.underlying5 Try.underlying9 (by
    intro j hj
    obtain rfl : j = 0 := by simp at hj; omega
    have : ((UInt8.ofNat z.toNat).toNat : Int) = z := by rw [UInt8.toNat_ofNat']; omega
    show (w.alloc _).cell? ⟨w.heap.size, 0 + 0, none⟩ = some (.int .u8 ((UInt8.ofNat z.toNat).toNat : Int))
    rw [this, World.cell?_alloc_mark]; rfl)
  exact h
theorem bytes_any (N m : Nat) (hN : N < 18446744073709551616) (hm : m ≤ 8) (w : World) :
    Calls Try.prog 23 #[.int .u64 (N : Int), .int .i64 (m : Int)] w fun e w' => e = .returned (.string (bs (be m N))) ∧ Below w.heap.size w w' := by
  go_enter Try.func23, Try.ntmps23
  go_wp2_with fail
  go_loopw [0, 5, 6] (fun n s i wr => ∃ k N' : Nat, k ≤ m ∧ i = .int .i64 k ∧ N' < 18446744073709551616 ∧ n = .int .u64 (N' : Int) ∧ (∃ l, s = .string (bs l) ∧ l.length = k ∧ be m N = be (m - k) N' ++ l) ∧ Below w.heap.size w wr) (fun _ _ i _ => m - (intOf i).toNat)
  case atStart => exact ⟨0, N, by omega, rfl, hN, rfl, ⟨[], rfl, rfl, by simp⟩, Below.refl _ _⟩
  case round =>
    obtain ⟨k, N', hk, rfl, hN', rfl, ⟨l, rfl, hlen, hl⟩, hB⟩ := hrel
    have HLen := Lib.hid hlen
    have HB := Lib.hid hB
    have HL := Lib.hid hl
    clear hB hl hlen
    by_cases hlt : k < m
    · have hcv := conv1 wr ((N' : Int) % 256) (by omega) (by omega)
      have hz1 : (bs [UInt8.ofNat (N' % 256)]).size + (bs l).size ≤ 9 := by rw [bs_size, bs_size, HLen.out]; simp; omega
      rw [show ((N' : Int) % 256).toNat = N' % 256 from by omega] at hcv
      have hca : bs [UInt8.ofNat (N' % 256)] ++ bs l = bs (UInt8.ofNat (N' % 256) :: l) := bs_append _ _
      go_wp2_with fail
      go_roundw
      case rel => exact ⟨k + 1, N' / 256, by omega, by go_num, by omega, by go_num, ⟨_, rfl, by rw [List.length_cons, HLen.out], by
        rw [HL.out, show m - k = (m - (k + 1)) + 1 from by omega]
        show be (m - (k + 1)) (N' / 256) ++ [UInt8.ofNat (N' % 256)] ++ l = _
        simp⟩, (HB.out.alloc HB.out.size _)⟩
      case measure => simp only [intOf]; omega
    · obtain rfl : k = m := by omega
      go_wp2_with fail
      go_ret
      exact ⟨by rw [HL.out, Nat.sub_self]; rfl, HB.out⟩
theorem number_any (l : List UInt8) (hl : l.length ≤ 8) (w : World) :
    Calls Try.prog 28 #[.string (bs l)] w fun e w' => e = .returned (.int .u64 (num l : Int)) ∧ w = w' := by
  have hsz : (bs l).size = l.length := rfl
  go_enter Try.func28, Try.ntmps28
  go_wp2_with fail
  go_loop [3, 4] (fun n i => ∃ k : Nat, k ≤ l.length ∧ i = .int .i64 k ∧ n = .int .u64 (num (l.take k) : Int)) (fun _ i => l.length - (intOf i).toNat)
  case atStart => exact ⟨0, by omega, rfl, rfl⟩
  case round =>
    obtain ⟨k, hk, rfl, rfl⟩ := hrel
    by_cases hlt : k < l.length
    · have hlt' : k < (bs l).size := hlt
      have hs : num (l.take (k + 1)) = 256 * num (l.take k) + (l[k]).toNat := by
        rw [List.take_succ_eq_append_getElem hlt, num_snoc]; rfl
      have hb := num_lt (l.take k)
      have hb2 : (256 : Nat) ^ (l.take k).length ≤ 256 ^ 7 := Nat.pow_le_pow_right (by omega) (by simp; omega)
      have hb3 : num (l.take k) < 72057594037927936 := Nat.lt_of_lt_of_le hb hb2
      have hc := (l[k]).toNat_lt
      have e : IntKind.u64.wrap (IntKind.u64.wrap (256 * (num (l.take k) : Int)) + IntKind.u64.wrap ((l[k]).toNat : Int)) = (num (l.take (k + 1)) : Int) := by
        rw [hs, IntKind.wrap_u64, IntKind.wrap_u64, IntKind.wrap_u64, Int.natCast_add, Int.natCast_mul]
        omega
      have E := Lib.hid e
      clear hs hb hb2 hb3 hc e
      go_wp2_with fail
      go_round
      case rel => exact ⟨k + 1, by omega, by go_num, by rw [← E.out]; rfl⟩
      case measure => simp only [intOf]; omega
    · obtain rfl : k = l.length := by omega
      go_wp2_with fail
      go_ret
      exact ⟨by rw [← congrArg num List.take_length]; rfl, rfl⟩
theorem put_any (B : Nat) (w : World) (v : Value) (n : Nat) (xs : List UInt8) (N m : Nat) (hm : m ≤ 8) (hn : n ≤ 1000) (ho : w.ownsRow B 5 1 v n (xs.map BV)) (hB : B ≤ w.heap.size) :
    Calls Try.prog 21 #[v, .int .u64 (N : Int), .int .i64 (m : Int)] w fun e w' => ∃ v', e = .returned v' ∧ w'.ownsRow B 5 1 v' (n + m) ((xs ++ be m N).map BV) ∧ Below B w w' := by
  obtain ⟨i0, hi, hz0, hz1, hz2⟩ := info_parts info5
  have HO := Lib.hid ho
  clear ho
  go_enter Try.func21, Try.ntmps21
  go_wp2_with fail
  go_loopw [0, 9] (fun v i wr => ∃ k : Nat, k ≤ m ∧ i = .int .i64 k ∧ wr.ownsRow B 5 1 v (n + k) ((xs ++ bx m N k).map BV) ∧ Below B w wr) (fun _ i _ => m - (intOf i).toNat)
  case atStart => exact ⟨0, by omega, rfl, by rw [bx_zero, List.append_nil]; exact HO.out, Below.refl _ _⟩
  case round =>
    obtain ⟨k, hk, rfl, hown, hbel⟩ := hrel
    have HO := Lib.hid hown
    have HB := Lib.hid hbel
    clear hown hbel
    by_cases hlt : k < m
    · have hv : Value.int .u8 ((N : Int) / 2 ^ (8 * (m - 1 - k)) % 256) = BV (UInt8.ofNat (N / 2 ^ (8 * (m - 1 - k)) % 256)) := by
        unfold BV
        rw [u8_of]
        congr 1
      have HV := Lib.hid hv
      have hsz := HB.out.size
      clear hv
      go_wp2_with (at_builtin; refine wpList_append_own _ rfl _ _ 38 rfl B 5 i0 (.int .u8 0) 1 1 Try.underlying38 hi hz0 hz1 hz2 rfl (by decide) _ _ _ rfl (HO.out.alloc _) ⟨wr.heap.size, 0, none⟩ 1 1 [.int .u8 ((N : Int) / 2 ^ (8 * (m - 1 - k)) % 256)] rfl rfl ?c1 ?c2 ?c3 ?c4 ?c5 ?_)
      case c1 =>
        intro j u hj
        match j, hj with
        | 0, hj => simp at hj; subst hj; simp [Addr.add]
      case c2 => intro u hu; simp at hu; subst hu; rfl
      case c3 => unfold maxLen; omega
      case c4 => first | omega | exact (by omega)
      case c5 => simp; omega
      intro v' w1 hown' hgrow _
      have hb1 := (HB.out.alloc (by omega) _).grown hgrow (by simp; omega) (fun j hj => (HO.out.lt j hj).1)
      have HO' : Hid (w1.ownsRow B 5 1 v' (n + (k + 1)) ((xs ++ bx m N (k + 1)).map BV)) := Lib.hid (by rw [bx_succ, ← List.append_assoc, List.map_append, List.map_cons, ← HV.out, List.map_append, List.append_assoc]; exact hown')
      have HB' := Lib.hid hb1
      clear hown' hgrow hb1 HO HB HV
      go_wp2_with fail
      go_roundw
      case rel => exact ⟨k + 1, by omega, by go_num, HO'.out, HB'.out⟩
      case measure => simp only [intOf]; omega
    · obtain rfl : k = m := by omega
      go_wp2_with fail
      go_ret
      exact ⟨_, rfl, by rw [← bx_all]; exact HO.out, HB.out⟩
end Go.Proofs.Ytccakpbgmgogeaa
