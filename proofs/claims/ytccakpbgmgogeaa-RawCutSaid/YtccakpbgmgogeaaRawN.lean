/- The walk of RawEntries. -/
import Derived.Test.YtccakpbgmgogeaaRawM
namespace Go.Proofs.Ytccakpbgmgogeaa
open Go.RowKit RawPlain

def LawPost (W : World) (e : Ending) (w' : World) : Prop := e = .returned (.bool true) ∧ Below W.heap.size W w'
theorem bel2 {H : Nat} {a b c : World} (h : Below H a b) (k : Below b.heap.size b c) (hH : H ≤ b.heap.size) : Below H a c := h.trans (k.mono hH)
theorem row9 {w : World} {g : Nat} {x : E} (h : w.heap[g]? = some (.cells #[.int .u8 x.kind, .int .i64 x.tenant, .int .u8 x.code, .int .u64 x.h, .int .i64 x.a, .int .i64 x.b, .int .u64 x.v, .int .i64 x.worker, .int .u8 x.micro] 26 (0, 0))) : w.cell? ⟨g, 0, none⟩ = some (.int .u8 x.kind) ∧ w.cell? ⟨g, 1, none⟩ = some (.int .i64 x.tenant) ∧ w.cell? ⟨g, 2, none⟩ = some (.int .u8 x.code) ∧ w.cell? ⟨g, 3, none⟩ = some (.int .u64 x.h) ∧ w.cell? ⟨g, 4, none⟩ = some (.int .i64 x.a) ∧ w.cell? ⟨g, 5, none⟩ = some (.int .i64 x.b) ∧ w.cell? ⟨g, 6, none⟩ = some (.int .u64 x.v) ∧ w.cell? ⟨g, 7, none⟩ = some (.int .i64 x.worker) ∧ w.cell? ⟨g, 8, none⟩ = some (.int .u8 x.micro) :=
  ⟨cell_of_row _ _ 0 _ _ _ h, cell_of_row _ _ 1 _ _ _ h, cell_of_row _ _ 2 _ _ _ h, cell_of_row _ _ 3 _ _ _ h, cell_of_row _ _ 4 _ _ _ h, cell_of_row _ _ 5 _ _ _ h, cell_of_row _ _ 6 _ _ _ h, cell_of_row _ _ 7 _ _ _ h, cell_of_row _ _ 8 _ _ _ h⟩
theorem keep_row {w w' : World} {g : Nat} {C : Array Value} {t : TypeId} (h : w.heap[g]? = some (.cells C t (0, 0))) (b : Below w.heap.size w w') : w'.heap[g]? = some (.cells C t (0, 0)) := (b.block g (heap_lt h)).trans h
set_option maxHeartbeats 4000000 in
theorem entries_walk (x : E) (hw : x.Wf) (b : List UInt8) (hb : b.length ≤ 9223372036854775807) (W : World) :
    Calls Try.prog 3 #[.agg (ev x).toArray, .string (bs b)] W (LawPost W) := by
  have hsz : (bs b).size = b.length := rfl
  show Calls _ _ #[.agg #[.int .u8 x.kind, .int .i64 x.tenant, .int .u8 x.code, .int .u64 x.h, .int .i64 x.a, .int .i64 x.b, .int .u64 x.v, .int .i64 x.worker, .int .u8 x.micro], .string (bs b)] W _
  by_cases hl : 200 < b.length
  · go_enter Try.func3, Try.ntmps3
    go_wp2_with fail
    refine (awake_any _).mono ?_
    rintro e w1 ⟨rfl, b1⟩
    have B1 := Lib.hid (((Below.refl W.heap.size W).alloc (Nat.le_refl _) (.cells #[.int .u8 x.kind, .int .i64 x.tenant, .int .u8 x.code, .int .u64 x.h, .int .i64 x.a, .int .i64 x.b, .int .u64 x.v, .int .i64 x.worker, .int .u8 x.micro] 26)).trans (b1.mono (by simp)))
    clear b1
    go_wp2_with fail
    go_ret
    exact ⟨rfl, B1.out⟩
  · obtain ⟨sa, hsa⟩ : ∃ sa, bs (putS x) = sa := ⟨_, rfl⟩
    obtain ⟨na, hna⟩ : ∃ na, putN x = na := ⟨_, rfl⟩
    obtain ⟨y, hy⟩ : ∃ y, getE b = y := ⟨_, rfl⟩
    obtain ⟨nb, hnb⟩ : ∃ nb, getN b = nb := ⟨_, rfl⟩
    have cP : ∀ w, Calls Try.prog 8 #[.agg #[.int .u8 x.kind, .int .i64 x.tenant, .int .u8 x.code, .int .u64 x.h, .int .i64 x.a, .int .i64 x.b, .int .u64 x.v, .int .i64 x.worker, .int .u8 x.micro]] w fun e w' => e = .returned (.tuple #[.string sa, .int .i64 na]) ∧ Below w.heap.size w w' := fun w => by have := put_full x hw w; unfold PutPost at this; rw [hsa, hna] at this; exact this
    have cR : ∀ w, Calls Try.prog 9 #[.agg #[.int .u8 x.kind, .int .i64 x.tenant, .int .u8 x.code, .int .u64 x.h, .int .i64 x.a, .int .i64 x.b, .int .u64 x.v, .int .i64 x.worker, .int .u8 x.micro]] w fun e w' => e = .returned (.tuple #[.string sa, .int .i64 na]) ∧ Below w.heap.size w w' := fun w => by have := rput_any x hw w; unfold PutPost at this; rw [hsa, hna] at this; exact this
    have cG : ∀ w, Calls Try.prog 10 #[.string (bs b)] w fun e w' => e = .returned (.tuple #[.agg #[.int .u8 y.kind, .int .i64 y.tenant, .int .u8 y.code, .int .u64 y.h, .int .i64 y.a, .int .i64 y.b, .int .u64 y.v, .int .i64 y.worker, .int .u8 y.micro], .int .i64 nb]) ∧ Below w.heap.size w w' := fun w => by have := get_any b (by omega) w; unfold GetPost at this; rw [hy, hnb] at this; exact this
    have cQ : ∀ w, Calls Try.prog 11 #[.string (bs b)] w fun e w' => e = .returned (.tuple #[.agg #[.int .u8 y.kind, .int .i64 y.tenant, .int .u8 y.code, .int .u64 y.h, .int .i64 y.a, .int .i64 y.b, .int .u64 y.v, .int .i64 y.worker, .int .u8 y.micro], .int .i64 nb]) ∧ Below w.heap.size w w' := fun w => by have := rget_any b w; unfold RGetPost at this; rw [hy, hnb] at this; exact this
    have cB : na = 0 → ∀ w, Calls Try.prog 10 #[.string sa] w fun e w' => e = .returned (.tuple #[.agg #[.int .u8 x.kind, .int .i64 x.tenant, .int .u8 x.code, .int .u64 x.h, .int .i64 x.a, .int .i64 x.b, .int .u64 x.v, .int .i64 x.worker, .int .u8 x.micro], .int .i64 0]) ∧ Below w.heap.size w w' := by
      intro h w
      obtain ⟨a, ha⟩ : ∃ a, putL x = some a := by
        unfold putN at hna
        cases hp : putL x with
        | none => rw [hp] at hna; simp at hna; omega
        | some a => exact ⟨a, rfl⟩
      have h1 : putS x = a := by unfold putS; rw [ha]; rfl
      have h2 := get_some_E (get_put hw ha)
      have hl := put_len ha
      have := get_any a (by omega) w
      unfold GetPost at this
      rw [h2.1, h2.2, ← h1, hsa] at this
      exact this
    have cA : nb = 0 → ∀ w, Calls Try.prog 8 #[.agg #[.int .u8 y.kind, .int .i64 y.tenant, .int .u8 y.code, .int .u64 y.h, .int .i64 y.a, .int .i64 y.b, .int .u64 y.v, .int .i64 y.worker, .int .u8 y.micro]] w fun e w' => e = .returned (.tuple #[.string (bs b), .int .i64 0]) ∧ Below w.heap.size w w' := by
      intro h w
      obtain ⟨z, hz⟩ : ∃ z, getL b = some z := by
        unfold getN at hnb
        cases hp : getL b with
        | none => rw [hp] at hnb; simp at hnb; omega
        | some a => exact ⟨a, rfl⟩
      have h1 := get_some_E hz
      rw [hy] at h1
      have h2 := put_get hz
      have h3 : putS y = b := by rw [h1.1]; unfold putS; rw [h2]; rfl
      have h4 : putN y = 0 := by rw [h1.1]; unfold putN; rw [h2]; rfl
      have := put_full y (by rw [h1.1]; exact get_wf hz) w
      unfold PutPost at this
      rw [h3, h4] at this
      exact this
    clear hsa hna hy hnb hw
    have HA := Lib.hid cA
    have HBk := Lib.hid cB
    clear cA cB
    go_enter Try.func3, Try.ntmps3
    go_wp2_with fail
    refine (cP _).mono ?_
    rintro e w1 ⟨rfl, b1⟩
    have hx1 := keep_row (heap_alloc_new W (.cells #[.int .u8 x.kind, .int .i64 x.tenant, .int .u8 x.code, .int .u64 x.h, .int .i64 x.a, .int .i64 x.b, .int .u64 x.v, .int .i64 x.worker, .int .u8 x.micro] 26)) b1
    have B1 := Lib.hid (bel2 ((Below.refl W.heap.size W).alloc (Nat.le_refl _) (.cells #[.int .u8 x.kind, .int .i64 x.tenant, .int .u8 x.code, .int .u64 x.h, .int .i64 x.a, .int .i64 x.b, .int .u64 x.v, .int .i64 x.worker, .int .u8 x.micro] 26)) b1 (by simp))
    have HX1 := Lib.hid hx1
    have hc := row9 hx1
    clear b1 hx1
    go_wp2_with fail
    refine (cR _).mono ?_
    rintro e w2 ⟨rfl, b2⟩
    have HX2 := Lib.hid (keep_row HX1.out b2)
    have B2 := Lib.hid (bel2 B1.out b2 B1.out.size)
    clear b2 hc HX1 B1
    go_wp2_with fail
    refine (cG _).mono ?_
    rintro e w3 ⟨rfl, b3⟩
    have HX3 := Lib.hid (heap_alloc_old (keep_row HX2.out b3) (.cells #[.int .u8 y.kind, .int .i64 y.tenant, .int .u8 y.code, .int .u64 y.h, .int .i64 y.a, .int .i64 y.b, .int .u64 y.v, .int .i64 y.worker, .int .u8 y.micro] 26))
    have HY3 := Lib.hid (heap_alloc_new w3 (.cells #[.int .u8 y.kind, .int .i64 y.tenant, .int .u8 y.code, .int .u64 y.h, .int .i64 y.a, .int .i64 y.b, .int .u64 y.v, .int .i64 y.worker, .int .u8 y.micro] 26))
    have B3' := bel2 B2.out b3 B2.out.size
    have B3 := Lib.hid (B3'.alloc B3'.size (.cells #[.int .u8 y.kind, .int .i64 y.tenant, .int .u8 y.code, .int .u64 y.h, .int .i64 y.a, .int .i64 y.b, .int .u64 y.v, .int .i64 y.worker, .int .u8 y.micro] 26))
    clear b3 HX2 B2 B3'
    go_wp2_with fail
    refine (cQ _).mono ?_
    rintro e w4 ⟨rfl, b4⟩
    have HX4 := Lib.hid (heap_alloc_old (keep_row HX3.out b4) (.cells #[.int .u8 y.kind, .int .i64 y.tenant, .int .u8 y.code, .int .u64 y.h, .int .i64 y.a, .int .i64 y.b, .int .u64 y.v, .int .i64 y.worker, .int .u8 y.micro] 26))
    have HY4 := Lib.hid (heap_alloc_old (keep_row HY3.out b4) (.cells #[.int .u8 y.kind, .int .i64 y.tenant, .int .u8 y.code, .int .u64 y.h, .int .i64 y.a, .int .i64 y.b, .int .u64 y.v, .int .i64 y.worker, .int .u8 y.micro] 26))
    have HZ4 := Lib.hid (heap_alloc_new w4 (.cells #[.int .u8 y.kind, .int .i64 y.tenant, .int .u8 y.code, .int .u64 y.h, .int .i64 y.a, .int .i64 y.b, .int .u64 y.v, .int .i64 y.worker, .int .u8 y.micro] 26))
    have B4' := bel2 B3.out b4 B3.out.size
    have B4 := Lib.hid (B4'.alloc B4'.size (.cells #[.int .u8 y.kind, .int .i64 y.tenant, .int .u8 y.code, .int .u64 y.h, .int .i64 y.a, .int .i64 y.b, .int .u64 y.v, .int .i64 y.worker, .int .u8 y.micro] 26))
    clear b4 HX3 HY3 B3 B4'
    have hcy := row9 HY4.out
    have hcz := row9 HZ4.out
    by_cases hna : na = 0
    · subst hna
      have cB := HBk.out rfl
      go_wp2_with fail
      clear hcy hcz
      refine (cB _).mono ?_
      rintro e w5 ⟨rfl, b5⟩
      have HX5 := Lib.hid (heap_alloc_old (keep_row HX4.out b5) (.cells #[.int .u8 x.kind, .int .i64 x.tenant, .int .u8 x.code, .int .u64 x.h, .int .i64 x.a, .int .i64 x.b, .int .u64 x.v, .int .i64 x.worker, .int .u8 x.micro] 26))
      have HY5 := Lib.hid (heap_alloc_old (keep_row HY4.out b5) (.cells #[.int .u8 x.kind, .int .i64 x.tenant, .int .u8 x.code, .int .u64 x.h, .int .i64 x.a, .int .i64 x.b, .int .u64 x.v, .int .i64 x.worker, .int .u8 x.micro] 26))
      have HZ5 := Lib.hid (heap_alloc_new w5 (.cells #[.int .u8 x.kind, .int .i64 x.tenant, .int .u8 x.code, .int .u64 x.h, .int .i64 x.a, .int .i64 x.b, .int .u64 x.v, .int .i64 x.worker, .int .u8 x.micro] 26))
      have B5' := bel2 B4.out b5 B4.out.size
      have B5 := Lib.hid (B5'.alloc B5'.size (.cells #[.int .u8 x.kind, .int .i64 x.tenant, .int .u8 x.code, .int .u64 x.h, .int .i64 x.a, .int .i64 x.b, .int .u64 x.v, .int .i64 x.worker, .int .u8 x.micro] 26))
      clear b5 HX4 HY4 HZ4 B4 B5' cB
      have hcx := row9 HX5.out
      have hcz := row9 HZ5.out
      by_cases hnb : nb = 0
      · subst hnb
        have cA := HA.out rfl
        have hcY := row9 HY5.out
        go_wp2_with fail
        refine (cA _).mono ?_
        rintro e w6 ⟨rfl, b6⟩
        have B6 := Lib.hid (bel2 B5.out b6 B5.out.size)
        clear b6 hcY
        go_wp2_with fail
        refine (awake_any _).mono ?_
        rintro e w7 ⟨rfl, b7⟩
        have B7 := Lib.hid (bel2 B6.out b7 B6.out.size)
        clear b7
        go_wp2_with fail
        go_ret
        exact ⟨rfl, B7.out⟩
      · have e2 : (nb == 0) = false := by rw [beq_eq_false_iff_ne]; exact hnb
        clear hnb
        go_wp2_with fail
        refine (awake_any _).mono ?_
        rintro e w7 ⟨rfl, b7⟩
        have B7 := Lib.hid (bel2 B5.out b7 B5.out.size)
        clear b7
        go_wp2_with fail
        go_ret
        exact ⟨rfl, B7.out⟩
    · have e1 : (na == 0) = false := by rw [beq_eq_false_iff_ne]; exact hna
      clear hna
      by_cases hnb : nb = 0
      · subst hnb
        have cA := HA.out rfl
        have hcY := row9 HY4.out
        go_wp2_with fail
        refine (cA _).mono ?_
        rintro e w6 ⟨rfl, b6⟩
        have B6 := Lib.hid (bel2 B4.out b6 B4.out.size)
        clear b6 hcY
        go_wp2_with fail
        refine (awake_any _).mono ?_
        rintro e w7 ⟨rfl, b7⟩
        have B7 := Lib.hid (bel2 B6.out b7 B6.out.size)
        clear b7
        go_wp2_with fail
        go_ret
        exact ⟨rfl, B7.out⟩
      · have e2 : (nb == 0) = false := by rw [beq_eq_false_iff_ne]; exact hnb
        clear hnb
        go_wp2_with fail
        refine (awake_any _).mono ?_
        rintro e w7 ⟨rfl, b7⟩
        have B7 := Lib.hid (bel2 B4.out b7 B4.out.size)
        clear b7
        go_wp2_with fail
        go_ret
        exact ⟨rfl, B7.out⟩
end Go.Proofs.Ytccakpbgmgogeaa
