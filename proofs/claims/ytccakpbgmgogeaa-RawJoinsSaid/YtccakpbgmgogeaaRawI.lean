/- The walks of Put, and of its reference. -/
import Derived.Test.YtccakpbgmgogeaaRawH
import Derived.Deep.RegionHeld3
namespace Go.Proofs.Ytccakpbgmgogeaa
open Go.RowKit RawPlain

def MayPost (x : E) (w : World) (e : Ending) (w' : World) : Prop := e = .returned (.bool (decide (isOp x ∨ isStep x))) ∧ Below w.heap.size w w'
theorem may_fin (x : E) (w : World) (X : Bool) (C' : Array Value) (h : X = true ↔ (isOp x ∨ isStep x)) : MayPost x w (.returned (.bool X)) (w.alloc (.cells C' 26)) :=
  ⟨by rw [show X = decide (isOp x ∨ isStep x) from by rw [Bool.eq_iff_iff, decide_eq_true_iff]; exact h], (Below.refl w.heap.size w).alloc (Nat.le_refl _) _⟩
theorem may_any (x : E) (hw : x.Wf) (w : World) :
    Calls Try.prog 22 #[.agg (ev x).toArray] w (MayPost x w) := by
  obtain ⟨h1, h2, h3, h4, h5, h6, h7, h8, h9, h10, h11, h12, h13, h14, h15, h16, h17, h18⟩ := hw
  obtain ⟨K, T, C, H, A, B, V, W, M⟩ := x
  simp only at *
  show Calls _ _ #[.agg #[.int .u8 K, .int .i64 T, .int .u8 C, .int .u64 H, .int .i64 A, .int .i64 B, .int .u64 V, .int .i64 W, .int .u8 M]] w _
  by_cases k1 : K = 1
  · subst k1
    go_enter Try.func22, Try.ntmps22
    go_wp2_with fail
    all_goals
      go_ret
      refine may_fin _ _ _ _ ?_
      simp [isOp, isStep, four]
      try omega
  · by_cases k2 : K = 2
    · subst k2
      go_enter Try.func22, Try.ntmps22
      go_wp2_with fail
      all_goals
        go_ret
        refine may_fin _ _ _ _ ?_
        simp [isOp, isStep, four]
        try omega
    · have e1 : (K == 1) = false := by rw [beq_eq_false_iff_ne]; exact k1
      have e2 : (K == 2) = false := by rw [beq_eq_false_iff_ne]; exact k2
      have K1 := Lib.hid k1
      have K2 := Lib.hid k2
      clear k1 k2
      go_enter Try.func22, Try.ntmps22
      go_wp2_with fail
      all_goals
        go_ret
        refine may_fin _ _ _ _ ?_
        have k1 := K1.out
        have k2 := K2.out
        simp [isOp, isStep, four]
        try omega

/-- what Put gives -/
def putS (x : E) : List UInt8 := (putL x).getD []
def putN (x : E) : Int := if (putL x).isSome then 0 else 2
def PutPost (x : E) (w : World) (e : Ending) (w' : World) : Prop := e = .returned (.tuple #[.string (bs (putS x)), .int .i64 (putN x)]) ∧ Below w.heap.size w w'
theorem bytes_int (z : Int) (m : Nat) (h0 : 0 ≤ z) (h1 : z < 18446744073709551616) (hm : m ≤ 8) (w : World) :
    Calls Try.prog 23 #[.int .u64 z, .int .i64 (m : Int)] w fun e w' => e = .returned (.string (bs (be m z.toNat))) ∧ Below w.heap.size w w' := by
  have := bytes_any z.toNat m (by omega) hm w
  rwa [Int.toNat_of_nonneg h0] at this
theorem bytes_at (z M : Int) (m : Nat) (hM : M = m) (h0 : 0 ≤ z) (h1 : z < 18446744073709551616) (hm : m ≤ 8) (w : World) :
    Calls Try.prog 23 #[.int .u64 z, .int .i64 M] w fun e w' => e = .returned (.string (bs (be m z.toNat))) ∧ Below w.heap.size w w' := by
  subst hM
  exact bytes_int z m h0 h1 hm w
theorem be_mod : ∀ (m n : Nat), be m (n % 256 ^ m) = be m n
  | 0, _ => rfl
  | m + 1, n => by
    show be m (n % 256 ^ (m + 1) / 256) ++ [UInt8.ofNat (n % 256 ^ (m + 1) % 256)] = be m (n / 256) ++ _
    have e1 : n % 256 ^ (m + 1) / 256 = (n / 256) % 256 ^ m := by rw [Nat.pow_succ, Nat.mul_comm, Nat.mod_mul_right_div_self]
    have e2 : n % 256 ^ (m + 1) % 256 = n % 256 := Nat.mod_mod_of_dvd n (by rw [Nat.pow_succ]; exact Nat.dvd_mul_left _ _)
    rw [e1, e2, be_mod m]
theorem be_lo4 (n : Int) : be 4 (n % 18446744073709551616).toNat = be 4 (lo4 n) := by
  rw [← be_mod 4 (n % 18446744073709551616).toNat, ← be_mod 4 (lo4 n)]
  congr 1
  unfold lo4
  show (n % 18446744073709551616).toNat % 4294967296 = (n % 4294967296).toNat % 4294967296
  omega
theorem no_more {a : Nat} (h : a ≤ 9) : (9223372036854775807 < a) = False := eq_false (by omega)
@[reducible] def SP (w : World) (x : E) (w' : World) : Prop := w.heap.size < w'.heap.size ∧ Below w.heap.size w w' ∧ w'.cell? ⟨w.heap.size, 0, none⟩ = some (.int .u8 x.kind) ∧ w'.cell? ⟨w.heap.size, 1, none⟩ = some (.int .i64 x.tenant) ∧ w'.cell? ⟨w.heap.size, 2, none⟩ = some (.int .u8 x.code) ∧ w'.cell? ⟨w.heap.size, 3, none⟩ = some (.int .u64 x.h) ∧ w'.cell? ⟨w.heap.size, 4, none⟩ = some (.int .i64 x.a) ∧ w'.cell? ⟨w.heap.size, 5, none⟩ = some (.int .i64 x.b) ∧ w'.cell? ⟨w.heap.size, 6, none⟩ = some (.int .u64 x.v) ∧ w'.cell? ⟨w.heap.size, 7, none⟩ = some (.int .i64 x.worker) ∧ w'.cell? ⟨w.heap.size, 8, none⟩ = some (.int .u8 x.micro)
theorem SP.keep {w w1 w2 : World} {x : E} (h : SP w x w1) (hb : Below w1.heap.size w1 w2) : SP w x w2 := by
  obtain ⟨h0, hB, c0, c1, c2, c3, c4, c5, c6, c7, c8⟩ := h
  have k : ∀ i, w2.cell? ⟨w.heap.size, i, none⟩ = w1.cell? ⟨w.heap.size, i, none⟩ := fun i => hb.cell (p := ⟨w.heap.size, i, none⟩) h0
  exact ⟨Nat.lt_of_lt_of_le h0 hb.size, hB.trans (hb.mono hB.size), (k 0).trans c0, (k 1).trans c1, (k 2).trans c2, (k 3).trans c3, (k 4).trans c4, (k 5).trans c5, (k 6).trans c6, (k 7).trans c7, (k 8).trans c8⟩
theorem SP.drew {w w1 : World} {x : E} (h : SP w x w1) : SP w x w1.drew := ⟨h.1, h.2.1.drew, h.2.2⟩
theorem SP.first (w : World) (x : E) : SP w x (w.alloc (.cells (ev x).toArray 26)) := by
  have h := heap_alloc_new w (.cells (ev x).toArray 26)
  have k : ∀ i, (w.alloc (.cells (ev x).toArray 26)).cell? ⟨w.heap.size, i, none⟩ = (ev x)[i]? := fun i => by rw [cell_of_row _ _ _ _ _ _ h]; simp
  exact ⟨by simp, (Below.refl w.heap.size w).alloc (Nat.le_refl _) _, k 0, k 1, k 2, k 3, k 4, k 5, k 6, k 7, k 8⟩
theorem rput_no (x : E) (hw : x.Wf) (h : ¬ (isOp x ∨ isStep x)) (w : World) :
    Calls Try.prog 9 #[.agg (ev x).toArray] w (PutPost x w) := by
  have hx : putS x = [] ∧ putN x = 2 := by
    unfold putS putN putL
    rw [if_neg (fun k => h (.inl k)), if_neg (fun k => h (.inr k))]; exact ⟨rfl, rfl⟩
  have c := fun w => may_any x hw w
  unfold MayPost at c
  rw [decide_eq_false h] at c
  have HX := Lib.hid hx
  have HS := Lib.hid (SP.first w x)
  clear hx h hw
  go_enter Try.func9, Try.ntmps9
  go_wp2_with (refine wpList_load_row rfl _ _ rfl w.heap.size rfl 26 (ev x).toArray (0, 0) _ (heap_alloc_new w _) Try.underlying26 rfl info26' ?_)
  refine (c _).mono ?_
  rintro e w1 ⟨rfl, hb⟩
  have HB := Lib.hid (HS.out.keep hb).2.1
  clear hb
  go_wp2_with fail
  go_ret2
  exact ⟨by rw [HX.out.1, HX.out.2]; rfl, HB.out⟩
set_option maxHeartbeats 1000000 in
theorem rput_step (x : E) (hw : x.Wf) (h : isStep x) (w : World) :
    Calls Try.prog 9 #[.agg (ev x).toArray] w (PutPost x w) := by
  have hno : ¬ isOp x := fun k => by have h1 := k.1; have h2 := h.1; omega
  have hx : putS x = stepB x ∧ putN x = 0 := by
    unfold putS putN putL
    rw [if_neg hno, if_pos h]; exact ⟨rfl, rfl⟩
  have c := fun w => may_any x hw w
  unfold MayPost at c
  rw [decide_eq_true (.inr h)] at c
  obtain ⟨h1, h2, h3, h4, h5, h6, h7, h8, h9⟩ := h
  have m0 := hw.micro0
  have m1 := hw.micro1
  have e0 : be 1 x.worker.toNat = [UInt8.ofNat x.worker.toNat] := by show [UInt8.ofNat (x.worker.toNat % 256)] = _; rw [Nat.mod_eq_of_lt (by omega)]
  have e1 : be 1 x.micro.toNat = [UInt8.ofNat x.micro.toNat] := by show [UInt8.ofNat (x.micro.toNat % 256)] = _; rw [Nat.mod_eq_of_lt (by omega)]
  have p1 := fun w => bytes_at 2 1 1 rfl (by omega) (by omega) (by omega) w
  have p2 := fun w => bytes_at x.worker 1 1 rfl (by omega) (by omega) (by omega) w
  have p3 := fun w => bytes_at x.micro 1 1 rfl (by omega) (by omega) (by omega) w
  rw [e0] at p2
  rw [e1] at p3
  have a2 : bs (be 1 (2 : Int).toNat) ++ bs [UInt8.ofNat x.worker.toNat] = bs [2, UInt8.ofNat x.worker.toNat] := bs_append _ _
  have a3 : bs [2, UInt8.ofNat x.worker.toNat] ++ bs [UInt8.ofNat x.micro.toNat] = bs (stepB x) := bs_append _ _
  have z2 : (bs (be 1 (2 : Int).toNat)).size + (bs [UInt8.ofNat x.worker.toNat]).size ≤ 9 := by show 1 + 1 ≤ 9; decide
  have z3 : (bs [2, UInt8.ofNat x.worker.toNat]).size + (bs [UInt8.ofNat x.micro.toNat]).size ≤ 9 := by show 2 + 1 ≤ 9; decide
  have w2 : IntKind.u64.wrap x.worker = x.worker := by rw [IntKind.wrap_u64]; omega
  have w3 : IntKind.u64.wrap x.micro = x.micro := by rw [IntKind.wrap_u64]; omega
  have n2 := no_more z2
  have n3 := no_more z3
  clear z2 z3
  generalize bs [UInt8.ofNat x.worker.toNat] = s2 at *
  generalize bs [UInt8.ofNat x.micro.toNat] = s3 at *
  generalize bs [2, UInt8.ofNat x.worker.toNat] = s12 at *
  generalize bs (be 1 (2 : Int).toNat) = s1 at *
  have HX := Lib.hid hx
  have HS := Lib.hid (SP.first w x)
  have H1 := Lib.hid h1
  clear hx hw h3 h4 h5 h6 h7 h8 h9 e0 e1 hno h1 m0 m1
  go_enter Try.func9, Try.ntmps9
  go_wp2_with (refine wpList_load_row rfl _ _ rfl w.heap.size rfl 26 (ev x).toArray (0, 0) _ (heap_alloc_new w _) Try.underlying26 rfl info26' ?_)
  refine (c _).mono ?_
  rintro e w1 ⟨rfl, hb⟩
  have hs := HS.out.keep hb
  have hk := hs.2.2.1
  rw [H1.out] at hk
  have HS1 := Lib.hid hs
  clear hb c HS hs
  go_wp2_with fail
  have hs := HS1.out.drew
  unfold SP at hs
  clear HS1 hk
  go_region_held3 (fun w' => w.heap.size < w'.heap.size ∧ Below w.heap.size w w' ∧ w'.cell? ⟨w.heap.size, 0, none⟩ = some (.int .u8 x.kind) ∧ w'.cell? ⟨w.heap.size, 1, none⟩ = some (.int .i64 x.tenant) ∧ w'.cell? ⟨w.heap.size, 2, none⟩ = some (.int .u8 x.code) ∧ w'.cell? ⟨w.heap.size, 3, none⟩ = some (.int .u64 x.h) ∧ w'.cell? ⟨w.heap.size, 4, none⟩ = some (.int .i64 x.a) ∧ w'.cell? ⟨w.heap.size, 5, none⟩ = some (.int .i64 x.b) ∧ w'.cell? ⟨w.heap.size, 6, none⟩ = some (.int .u64 x.v) ∧ w'.cell? ⟨w.heap.size, 7, none⟩ = some (.int .i64 x.worker) ∧ w'.cell? ⟨w.heap.size, 8, none⟩ = some (.int .u8 x.micro)) (first | assumption | go_keep)
    (first
      | (go_at_call 23; (first | (with_reducible refine (p1 _).mono ?_) | (with_reducible refine (p2 _).mono ?_) | (with_reducible refine (p3 _).mono ?_)); rintro e w2 ⟨rfl, hb2⟩; have hs2 := SP.keep (by assumption) hb2; unfold SP at hs2))
  go_wp2_with fail
  go_ret2
  exact ⟨by rw [HX.out.1, HX.out.2]; rfl, hs2.2.1⟩
set_option maxHeartbeats 4000000 in
theorem rput_op (x : E) (hw : x.Wf) (h : isOp x) (w : World) :
    Calls Try.prog 9 #[.agg (ev x).toArray] w (PutPost x w) := by
  have hx : putS x = opB x ∧ putN x = 0 := by
    unfold putS putN putL
    rw [if_pos h]; exact ⟨rfl, rfl⟩
  have c := fun w => may_any x hw w
  unfold MayPost at c
  rw [decide_eq_true (.inl h)] at c
  obtain ⟨h1, h2, h3, h4, h5, h6, h7⟩ := h
  obtain ⟨b1, b2, b3, b4, b5, b6, b7, b8, b9, b10, b11, b12, b13, b14, b15, b16, b17, b18⟩ := hw
  have wT : IntKind.u64.wrap x.tenant = x.tenant := by rw [IntKind.wrap_u64]; omega
  have wC : IntKind.u64.wrap x.code = x.code := by rw [IntKind.wrap_u64]; omega
  have wA : IntKind.u64.wrap x.a = x.a % 18446744073709551616 := IntKind.wrap_u64 _
  have wB : IntKind.u64.wrap x.b = x.b % 18446744073709551616 := IntKind.wrap_u64 _
  have eT : be 1 x.tenant.toNat = [UInt8.ofNat x.tenant.toNat] := by show [UInt8.ofNat (x.tenant.toNat % 256)] = _; rw [Nat.mod_eq_of_lt (by omega)]
  have eC : be 1 x.code.toNat = [UInt8.ofNat x.code.toNat] := by show [UInt8.ofNat (x.code.toNat % 256)] = _; rw [Nat.mod_eq_of_lt (by omega)]
  have p0 := fun w => bytes_at (1 : Int) 1 1 rfl (by omega) (by omega) (by omega) w
  have p1 := fun w => bytes_at x.tenant 1 1 rfl (by omega) (by omega) (by omega) w
  have p2 := fun w => bytes_at x.code 1 1 rfl (by omega) (by omega) (by omega) w
  have p3 := fun w => bytes_at x.h 8 8 rfl (by omega) (by omega) (by omega) w
  have p4 := fun w => bytes_at (x.a % 18446744073709551616) 4 4 rfl (by omega) (by omega) (by omega) w
  have p5 := fun w => bytes_at (x.b % 18446744073709551616) 4 4 rfl (by omega) (by omega) (by omega) w
  have p6 := fun w => bytes_at x.v 8 8 rfl (by omega) (by omega) (by omega) w
  have l0 := be_length 1 (1 : Int).toNat
  have l1 := be_length 1 x.tenant.toNat
  have l2 := be_length 1 x.code.toNat
  have l3 := be_length 8 x.h.toNat
  have l4 := be_length 4 (x.a % 18446744073709551616).toNat
  have l5 := be_length 4 (x.b % 18446744073709551616).toNat
  have l6 := be_length 8 x.v.toNat
  have hfin : be 1 (1 : Int).toNat ++ be 1 x.tenant.toNat ++ be 1 x.code.toNat ++ be 8 x.h.toNat ++ be 4 (x.a % 18446744073709551616).toNat ++ be 4 (x.b % 18446744073709551616).toNat ++ be 8 x.v.toNat = opB x := by
    rw [eT, eC, be_lo4, be_lo4]; rfl
  generalize be 1 (1 : Int).toNat = q0 at *
  generalize be 1 x.tenant.toNat = q1 at *
  generalize be 1 x.code.toNat = q2 at *
  generalize be 8 x.h.toNat = q3 at *
  generalize be 4 (x.a % 18446744073709551616).toNat = q4 at *
  generalize be 4 (x.b % 18446744073709551616).toNat = q5 at *
  generalize be 8 x.v.toNat = q6 at *
  have a1 : bs (q0) ++ bs q1 = bs (q0 ++ q1) := bs_append _ _
  have n1 : (9223372036854775807 < (bs (q0)).size + (bs q1).size) = False := eq_false (by simp only [bs_size]; omega)
  have a2 : bs (q0 ++ q1) ++ bs q2 = bs (q0 ++ q1 ++ q2) := bs_append _ _
  have n2 : (9223372036854775807 < (bs (q0 ++ q1)).size + (bs q2).size) = False := eq_false (by simp only [bs_size, List.length_append]; omega)
  have a3 : bs (q0 ++ q1 ++ q2) ++ bs q3 = bs (q0 ++ q1 ++ q2 ++ q3) := bs_append _ _
  have n3 : (9223372036854775807 < (bs (q0 ++ q1 ++ q2)).size + (bs q3).size) = False := eq_false (by simp only [bs_size, List.length_append]; omega)
  have a4 : bs (q0 ++ q1 ++ q2 ++ q3) ++ bs q4 = bs (q0 ++ q1 ++ q2 ++ q3 ++ q4) := bs_append _ _
  have n4 : (9223372036854775807 < (bs (q0 ++ q1 ++ q2 ++ q3)).size + (bs q4).size) = False := eq_false (by simp only [bs_size, List.length_append]; omega)
  have a5 : bs (q0 ++ q1 ++ q2 ++ q3 ++ q4) ++ bs q5 = bs (q0 ++ q1 ++ q2 ++ q3 ++ q4 ++ q5) := bs_append _ _
  have n5 : (9223372036854775807 < (bs (q0 ++ q1 ++ q2 ++ q3 ++ q4)).size + (bs q5).size) = False := eq_false (by simp only [bs_size, List.length_append]; omega)
  have a6 : bs (q0 ++ q1 ++ q2 ++ q3 ++ q4 ++ q5) ++ bs q6 = bs (q0 ++ q1 ++ q2 ++ q3 ++ q4 ++ q5 ++ q6) := bs_append _ _
  have n6 : (9223372036854775807 < (bs (q0 ++ q1 ++ q2 ++ q3 ++ q4 ++ q5)).size + (bs q6).size) = False := eq_false (by simp only [bs_size, List.length_append]; omega)
  rw [hfin] at a6
  have hx1 : bs (putS x) = bs (opB x) := by rw [hx.1]
  have hx2 := hx.2
  generalize bs (q0 ++ q1) = t1 at *
  generalize bs (q0 ++ q1 ++ q2) = t2 at *
  generalize bs (q0 ++ q1 ++ q2 ++ q3) = t3 at *
  generalize bs (q0 ++ q1 ++ q2 ++ q3 ++ q4) = t4 at *
  generalize bs (q0 ++ q1 ++ q2 ++ q3 ++ q4 ++ q5) = t5 at *
  generalize bs q0 = s0 at *
  generalize bs q1 = s1 at *
  generalize bs q2 = s2 at *
  generalize bs q3 = s3 at *
  generalize bs q4 = s4 at *
  generalize bs q5 = s5 at *
  generalize bs q6 = s6 at *
  generalize bs (opB x) = t6 at *
  generalize x.a % 18446744073709551616 = zA at *
  generalize x.b % 18446744073709551616 = zB at *
  have HX := Lib.hid (And.intro hx1 hx2)
  have HS := Lib.hid (SP.first w x)
  have H1 := Lib.hid h1
  clear hx hx1 hx2 hfin eT eC h1 h2 h3 h4 h5 h6 h7 b1 b2 b3 b4 b5 b6 b7 b8 b9 b10 b11 b12 b13 b14 b15 b16 b17 b18
  clear l0 l1 l2 l3 l4 l5 l6
  go_enter Try.func9, Try.ntmps9
  go_wp2_with (refine wpList_load_row rfl _ _ rfl w.heap.size rfl 26 (ev x).toArray (0, 0) _ (heap_alloc_new w _) Try.underlying26 rfl info26' ?_)
  refine (c _).mono ?_
  rintro e w1 ⟨rfl, hb⟩
  have hs := HS.out.keep hb
  have hk := hs.2.2.1
  rw [H1.out] at hk
  have HS1 := Lib.hid hs
  clear hb c HS hs
  go_wp2_with fail
  have hs := HS1.out.drew
  unfold SP at hs
  clear HS1 hk
  go_region_held3 (fun w' => w.heap.size < w'.heap.size ∧ Below w.heap.size w w' ∧ w'.cell? ⟨w.heap.size, 0, none⟩ = some (.int .u8 x.kind) ∧ w'.cell? ⟨w.heap.size, 1, none⟩ = some (.int .i64 x.tenant) ∧ w'.cell? ⟨w.heap.size, 2, none⟩ = some (.int .u8 x.code) ∧ w'.cell? ⟨w.heap.size, 3, none⟩ = some (.int .u64 x.h) ∧ w'.cell? ⟨w.heap.size, 4, none⟩ = some (.int .i64 x.a) ∧ w'.cell? ⟨w.heap.size, 5, none⟩ = some (.int .i64 x.b) ∧ w'.cell? ⟨w.heap.size, 6, none⟩ = some (.int .u64 x.v) ∧ w'.cell? ⟨w.heap.size, 7, none⟩ = some (.int .i64 x.worker) ∧ w'.cell? ⟨w.heap.size, 8, none⟩ = some (.int .u8 x.micro)) (first | assumption | go_keep)
    (first
      | (go_at_call 23; (first | (with_reducible refine (p0 _).mono ?_) | (with_reducible refine (p1 _).mono ?_) | (with_reducible refine (p2 _).mono ?_) | (with_reducible refine (p3 _).mono ?_) | (with_reducible refine (p4 _).mono ?_) | (with_reducible refine (p5 _).mono ?_) | (with_reducible refine (p6 _).mono ?_)); rintro e w2 ⟨rfl, hb2⟩; have hs2 := SP.keep (by assumption) hb2; unfold SP at hs2))
  go_wp2_with fail
  go_ret2
  exact ⟨by rw [HX.out.1, HX.out.2]; rfl, hs2.2.1⟩
theorem rput_any (x : E) (hw : x.Wf) (w : World) : Calls Try.prog 9 #[.agg (ev x).toArray] w (PutPost x w) := by
  by_cases h1 : isOp x
  · exact rput_op x hw h1 w
  · by_cases h2 : isStep x
    · exact rput_step x hw h2 w
    · exact rput_no x hw (fun h => h.elim h1 h2) w
end Go.Proofs.Ytccakpbgmgogeaa
