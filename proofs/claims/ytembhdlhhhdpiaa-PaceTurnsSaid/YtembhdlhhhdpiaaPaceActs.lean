/- Acts that come in, and the plain law of words asked for in parts. -/
import Derived.Test.YtembhdlhhhdpiaaPaceAwake
import Derived.ProofKit
import Derived.OpenShut
import Derived.ShutString
import Derived.ChangeOld
import Derived.Deep.SlicePairs
import Derived.Lib.SmallJoins
namespace Go.Proofs.Ytembhdlhhhdpiaa
open Go.ChangeShapes Go.WideShapes Go.ChangeAt Go.RowKit Go.Deep SatPlain

/-- acts in a slice -/
def Acts (w : World) (A : Option Addr) (len : Nat) (what slot : Nat → Int) : Prop :=
  (∀ i, 0 ≤ what i ∧ what i ≤ 255) ∧ (∀ i, -9223372036854775808 ≤ slot i ∧ slot i ≤ 9223372036854775807) ∧ len ≤ 9223372036854775807 ∧
  (0 < len → ∃ b off, A = some ⟨b, off, none⟩ ∧ b < w.heap.size ∧
    ∀ i, i < len → w.cell? ⟨b, off + i * 2, none⟩ = some (.int .u8 (what i)) ∧ w.cell? ⟨b, off + i * 2 + 1, none⟩ = some (.int .i64 (slot i)))

theorem own : ownKnob Try.prog.godebug = none := by kernel_rfl
theorem laidOut : laidOutB Try.prog = true := by kernel_rfl

theorem u8_bd {n : Int} (h : (Lit.int .u8 n).wf = true) : 0 ≤ n ∧ n ≤ 255 := by
  have h' : IntKind.u8.min ≤ n ∧ n ≤ IntKind.u8.max := by simpa [Lit.wf] using h
  exact h'
theorem u16_bd {n : Int} (h : (Lit.int .u16 n).wf = true) : 0 ≤ n ∧ n ≤ 65535 := by
  have h' : IntKind.u16.min ≤ n ∧ n ≤ IntKind.u16.max := by simpa [Lit.wf] using h
  exact h'
theorem i64_bd {n : Int} (h : (Lit.int .i64 n).wf = true) : -9223372036854775808 ≤ n ∧ n ≤ 9223372036854775807 := by
  have h' : IntKind.i64.min ≤ n ∧ n ≤ IntKind.i64.max := by simpa [Lit.wf] using h
  exact h'

/-- from 'for every i below n there is one' to one function -/
theorem choose_int (n : Nat) (R : Nat → Int → Prop) (lo hi : Int) (hlo : lo ≤ 0) (hhi : 0 ≤ hi) (h : ∀ i, i < n → ∃ x, R i x ∧ lo ≤ x ∧ x ≤ hi) :
    ∃ f : Nat → Int, (∀ i, i < n → R i (f i)) ∧ ∀ i, lo ≤ f i ∧ f i ≤ hi := by
  refine ⟨fun i => if hi' : i < n then (h i hi').choose else 0, fun i hi' => ?_, fun i => ?_⟩
  · simp only [hi', dif_pos]; exact (h i hi').choose_spec.1
  · by_cases hi' : i < n
    · simp only [hi', dif_pos]; exact (h i hi').choose_spec.2
    · simp only [hi', dif_neg, not_false_eq_true]; exact ⟨hlo, hhi⟩

theorem acts_of {H : Type} {enc : TypeId × Value → H} {W : World} {base : Nat} {v : Value} {d : DataW H} {p : List MemPlace} (hv : Value.okWide Try.prog W .any base 24 v)
    (h : DataW.Trod enc Try.prog W 0 (fun _ => true) true 24 v d p) (lt : ∀ x ∈ p, x.block < W.heap.size) :
    ∃ A len cap what slot, v = .slice A len cap ∧ Acts W A len what slot := by
  obtain ⟨A, len, cap, rfl⟩ := okWide_slice Try.underlying24 hv
  refine ⟨A, len, cap, ?_⟩
  obtain ⟨fuel, hf⟩ := h
  rcases open_slice_pairs Try.underlying24 Try.underlying26 (by kernel_rfl) rfl rfl (by kernel_rfl) (by kernel_rfl) hf with ⟨hcs, _⟩ | ⟨a, len', cap', m, n, V0, V1, D0, D1, P0, P1, hcs, _, hl, hm, hmm, hx, hcell⟩
  · simp [Value.cells] at hcs
    obtain ⟨rfl, rfl, rfl⟩ := hcs
    exact ⟨fun _ => 0, fun _ => 0, rfl, by simp, by simp, by decide, fun h => absurd h (by decide)⟩
  · simp [Value.cells] at hcs
    obtain ⟨rfl, rfl, rfl⟩ := hcs
    simp only [if_true] at hmm
    subst hmm
    have key : ∀ i, i < len → (∃ x, W.cell? (a.add (i * 2)) = some (.int .u8 x) ∧ (0 : Int) ≤ x ∧ x ≤ 255) ∧ ∃ y, W.cell? (a.add (i * 2 + 1)) = some (.int .i64 y) ∧ (-9223372036854775808 : Int) ≤ y ∧ y ≤ 9223372036854775807 := by
      intro i hi
      obtain ⟨h0, h1, t0, t1⟩ := hcell i (by omega)
      obtain ⟨x, e0, _, wx⟩ := DataW.trod_int Try.underlying5 t0
      obtain ⟨y, e1, _, wy⟩ := DataW.trod_int Try.underlying3 t1
      simp at e0 e1
      rw [e0] at h0
      rw [e1] at h1
      exact ⟨⟨x, h0, u8_bd wx⟩, y, h1, i64_bd wy⟩
    obtain ⟨what, hw, bw⟩ := choose_int len (fun i x => W.cell? (a.add (i * 2)) = some (.int .u8 x)) 0 255 (by decide) (by decide) (fun i hi => (key i hi).1)
    obtain ⟨slot, hs, bs⟩ := choose_int len (fun i x => W.cell? (a.add (i * 2 + 1)) = some (.int .i64 x)) (-9223372036854775808) 9223372036854775807 (by decide) (by decide) (fun i hi => (key i hi).2)
    refine ⟨what, slot, rfl, bw, bs, by unfold maxLen at hm; omega, fun hpos => ?_⟩
    obtain ⟨b, off, spot⟩ := a
    have h0 := hw 0 hpos
    have hspot : spot = none := by simpa [Addr.add] using World.cell?_spot h0
    subst hspot
    have hb : b < W.heap.size := by
      have hmem : MemPlace.cell b off ∈ p := by
        have := congrArg Prod.snd hx
        simp only at this
        rw [this, List.mem_append]
        left
        simp [MemPlace.row]
        omega
      exact lt _ hmem
    refine ⟨b, off, rfl, hb, fun i hi => ⟨?_, ?_⟩⟩
    · have := hw i hi
      unfold Addr.add at this
      split at this
      · rename_i e; rw [e]; exact this
      · exact this
    · have := hs i hi
      unfold Addr.add at this
      rw [if_neg (by omega)] at this
      exact this

/-- one act by value -/
theorem act_of {H : Type} {enc : TypeId × Value → H} {W : World} {base : Nat} {v : Value} {d : DataW H} {p : List MemPlace} (hv : Value.okWide Try.prog W .any base 26 v)
    (h : DataW.Trod enc Try.prog W 0 (fun _ => true) true 26 v d p) :
    ∃ xw xs, v = .agg #[.int .u8 xw, .int .i64 xs] ∧ (Lit.int .u8 xw).wf = true ∧ (Lit.int .i64 xs).wf = true := by
  obtain ⟨c0, c1, y0, y1, m, rfl, rfl, rfl, hy0, hy1⟩ := Joins.open_agg2 Try.underlying26 (by kernel_rfl) (by kernel_rfl) hv h
  obtain ⟨a, e0, _, wa⟩ := DataW.trod_int Try.underlying5 hy0
  obtain ⟨b, e1, _, wb⟩ := DataW.trod_int Try.underlying3 hy1
  simp at e0 e1
  exact ⟨a, b, by rw [e0, e1], wa, wb⟩
/-- a tenant -/
theorem tenant_of {H : Type} {enc : TypeId × Value → H} {W : World} {base : Nat} {v : Value} {d : DataW H} {p : List MemPlace} (hv : Value.okWide Try.prog W .any base 23 v)
    (h : DataW.Trod enc Try.prog W 0 (fun _ => true) true 23 v d p) :
    ∃ q t k a, v = TV q t k a ∧ (Lit.int .i64 q).wf = true ∧ (Lit.int .i64 t).wf = true ∧ (Lit.int .i64 k).wf = true ∧ (Lit.int .i64 a).wf = true := by
  obtain ⟨c0, c1, c2, c3, y0, y1, y2, y3, m, rfl, rfl, rfl, hy0, hy1, hy2, hy3⟩ := Joins.open_agg4 Try.underlying23 (by kernel_rfl) (by kernel_rfl) hv h
  obtain ⟨a, e0, _, wa⟩ := DataW.trod_int Try.underlying3 hy0
  obtain ⟨b, e1, _, wb⟩ := DataW.trod_int Try.underlying3 hy1
  obtain ⟨c, e2, _, wc⟩ := DataW.trod_int Try.underlying3 hy2
  obtain ⟨d, e3, _, wd⟩ := DataW.trod_int Try.underlying3 hy3
  simp at e0 e1 e2 e3
  exact ⟨a, b, c, d, by rw [e0, e1, e2, e3]; rfl, wa, wb, wc, wd⟩

theorem Bdr {B : Nat} {w w' : World} (h : Below B w w') : Below B w w'.drew := ⟨h.os, h.tape, h.output, h.size, h.block⟩
/-- where something is due none is counted -/
theorem ask_due {c : PP} (_g : c.Good) {a : Int} (ha : 1 ≤ a) (hd : askD c a ≠ 0) : (askC c a).si = 0 := by
  by_cases hs : clip (c.si + a) < c.tr
  · exact absurd (ask_lo ha hs).1 hd
  · cases h1 : c.ac
    · rw [(ask_off ha hs h1).2]; rfl
    · rw [(ask_on ha hs h1).2]; rfl
theorem both (w : World) (o o' : Obj) : Below w.heap.size w ((w.alloc o).alloc o') := ((Below.refl _ _).alloc (Nat.le_refl _) _).alloc (by simp) _
/-- a tenant's own variable -/
def TB (w : World) (b : Nat) (q t k a : Int) : Prop := w.heap[b]? = some (.cells #[.int .i64 q, .int .i64 t, .int .i64 k, .int .i64 a] 23 (0, 0))
theorem TB.cells {w : World} {b : Nat} {q t k a : Int} (h : TB w b q t k a) : w.cell? ⟨b, 0, none⟩ = some (.int .i64 q) ∧ w.cell? ⟨b, 1, none⟩ = some (.int .i64 t) ∧ w.cell? ⟨b, 2, none⟩ = some (.int .i64 k) ∧ w.cell? ⟨b, 3, none⟩ = some (.int .i64 a) := by
  refine ⟨?_, ?_, ?_, ?_⟩ <;> (rw [cellOf h]; rfl)
theorem TB.below {w w' : World} {b n : Nat} {q t k a : Int} (h : TB w b q t k a) (hb : Below n w w') (hn : b < n) : TB w' b q t k a := (hb.block b hn).trans h
theorem TB.only {w w' : World} {b p : Nat} {q t k a : Int} (h : TB w b q t k a) (hb : Only w w' p) (hn : b ≠ p) : TB w' b q t k a := (hb.block b (ltOf h) hn).trans h
theorem TB.new (w : World) (q t k a : Int) : TB (w.alloc (.cells #[.int .i64 q, .int .i64 t, .int .i64 k, .int .i64 a] 23)) w.heap.size q t k a := heap_alloc_new _ _
theorem TB.alloc {w : World} {b : Nat} {q t k a : Int} (h : TB w b q t k a) (o : Obj) : TB (w.alloc o) b q t k a := h.below ((Below.refl _ _).alloc (Nat.le_refl _) o) (ltOf h)

/-- asked for in two parts, or at once -/
theorem ask_parts {c : PP} (g : c.Good) {a b : Int} (ha : 1 ≤ a) (hb : 1 ≤ b) (hd : askD c a = 0) :
    askD (askC c a) b = askD c (a + b) ∧ askC (askC c a) b = askC c (a + b) := by
  have hlo : clip (c.si + a) < c.tr := by
    rcases Int.lt_or_le (clip (c.si + a)) c.tr with h | h
    · exact h
    · exfalso
      cases h1 : c.ac
      · have := (ask_off ha (by omega) h1).1; omega
      · have := (ask_on ha (by omega) h1).1; omega
  have e := (ask_lo ha hlo).2
  have s1 : clip (clip (c.si + a) + b) = clip (c.si + (a + b)) := by
    rw [add_assoc' g.si0 (by omega) (by omega)]
    by_cases h : a + b ≤ 4611686018427387904
    · rw [clip_of (n := a + b) (by omega) h]
    · rw [clip_big (n := a + b) (by omega), clip_big (by have := g.si0; omega), clip_big (by have := g.si0; omega)]
  have s2 : clip (clip (c.tot + a) + b) = clip (c.tot + (a + b)) := by
    rw [add_assoc' g.tot.1 (by omega) (by omega)]
    by_cases h : a + b ≤ 4611686018427387904
    · rw [clip_of (n := a + b) (by omega) h]
    · rw [clip_big (n := a + b) (by omega), clip_big (by have := g.tot.1; omega), clip_big (by have := g.tot.1; omega)]
  have s3 : deA (at2 c a) b = deA c (a + b) := by
    cases h1 : c.ac
    · have e1 : deA c (a + b) = c.de := by unfold deA; rw [h1, if_neg (by decide)]
      have e2 : deA c a = c.de := by unfold deA; rw [h1, if_neg (by decide)]
      have e3 : deA (at2 c a) b = (at2 c a).de := by unfold deA; rw [show (at2 c a).ac = c.ac from rfl, h1, if_neg (by decide)]
      rw [e1, e3]; exact e2
    · have e1 : deA c (a + b) = clip (c.de + clip ((a + b) * c.ast)) := by unfold deA; rw [h1, if_pos rfl]
      have e2 : deA c a = clip (c.de + clip (a * c.ast)) := by unfold deA; rw [h1, if_pos rfl]
      have e3 : deA (at2 c a) b = clip ((at2 c a).de + clip (b * c.ast)) := by unfold deA; rw [show (at2 c a).ac = c.ac from rfl, h1, if_pos rfl]; rfl
      rw [e1, e3, show (at2 c a).de = deA c a from rfl, e2, add_assoc' g.de.1 (clip_lo _) (clip_lo _)]
      have n1 : 0 ≤ a * c.ast := Int.mul_nonneg (by omega) g.as0
      have n2 : 0 ≤ b * c.ast := Int.mul_nonneg (by omega) g.as0
      rw [Int.add_mul]
      have d0 := g.de.1
      generalize a * c.ast = x at *
      generalize b * c.ast = y at *
      congr 2
      clear e1 e2 e3 s1 s2 e hlo hd g
      unfold clip
      split <;> split <;> split <;> (try split) <;> (try split) <;> (try split) <;> omega
  have hD : ∀ (x y : PP) (n m : Int), 1 ≤ n → 1 ≤ m → clip (x.si + n) = clip (y.si + m) → x.tr = y.tr → x.ac = y.ac → askD x n = askD y m := by
    intro x y n m hn hm h1 h2 h3
    have k1 : ¬ n < 1 := by omega
    have k2 : ¬ m < 1 := by omega
    unfold askD
    rw [if_neg k1, if_neg k2, h1, h2, h3]
  rw [e]
  have k1 : ¬ b < 1 := by omega
  have k2 : ¬ a + b < 1 := by omega
  refine ⟨hD _ _ _ _ hb (by omega) s1 rfl rfl, ?_⟩
  unfold askC
  rw [if_neg k1, if_neg k2, s3]
  show (⟨c.tr, c.ast, _, _, _, _, _⟩ : PP) = ⟨c.tr, c.ast, _, _, _, _, _⟩
  have t1 : clip ((at2 c a).si + b) = clip (c.si + (a + b)) := s1
  have t2 : clip ((at2 c a).tot + b) = clip (c.tot + (a + b)) := s2
  rw [t1, t2]
  rfl
end Go.Proofs.Ytembhdlhhhdpiaa
