/- How the acts that come in are opened, and the last step of each statement. -/
import Derived.Test.YtcckppijabajdaaTintF
import Derived.ProofKit
import Derived.OpenShut
import Derived.ShutString
import Derived.ChangeOld
import Derived.Deep.SlicePairs
import Derived.Lib.SmallJoins
namespace Go.Proofs.Ytcckppijabajdaa
open Go.ChangeShapes Go.WideShapes Go.ChangeAt Go.RowKit Go.Deep

theorem own : ownKnob Try.prog.godebug = none := by kernel_rfl
theorem laidOut : laidOutB Try.prog = true := by kernel_rfl

theorem u8_bd {n : Int} (h : (Lit.int .u8 n).wf = true) : 0 ≤ n ∧ n ≤ 255 := by
  have h' : IntKind.u8.min ≤ n ∧ n ≤ IntKind.u8.max := by simpa [Lit.wf] using h
  exact h'
theorem u16_bd {n : Int} (h : (Lit.int .u16 n).wf = true) : 0 ≤ n ∧ n ≤ 65535 := by
  have h' : IntKind.u16.min ≤ n ∧ n ≤ IntKind.u16.max := by simpa [Lit.wf] using h
  exact h'
theorem i64_bd {n : Int} (h : (Lit.int .i64 n).wf = true) : -9223372036854775808 ≤ n ∧ n ≤ 9223372036854775807 := by
  have h' : IntKind.i64.min ≤ n ∧ n ≤ IntKind.i64.max := by simpa [Lit.wf] using h
  exact h'

/-- from 'for every i below n there is one' to one function -/
theorem choose_int (n : Nat) (R : Nat → Int → Prop) (lo hi : Int) (hlo : lo ≤ 0) (hhi : 0 ≤ hi) (h : ∀ i, i < n → ∃ x, R i x ∧ lo ≤ x ∧ x ≤ hi) :
    ∃ f : Nat → Int, (∀ i, i < n → R i (f i)) ∧ ∀ i, lo ≤ f i ∧ f i ≤ hi := by
  refine ⟨fun i => if hi' : i < n then (h i hi').choose else 0, fun i hi' => ?_, fun i => ?_⟩
  · simp only [hi', dif_pos]; exact (h i hi').choose_spec.1
  · by_cases hi' : i < n
    · simp only [hi', dif_pos]; exact (h i hi').choose_spec.2
    · simp only [hi', dif_neg, not_false_eq_true]; exact ⟨hlo, hhi⟩

theorem acts_of {H : Type} {enc : TypeId × Value → H} {W : World} {base : Nat} {v : Value} {d : DataW H} {p : List MemPlace} (hv : Value.okWide Try.prog W .any base 22 v)
    (h : DataW.Trod enc Try.prog W 0 (fun _ => true) true 22 v d p) (lt : ∀ x ∈ p, x.block < W.heap.size) :
    ∃ A len cap what slot, v = .slice A len cap ∧ Acts W A len what slot := by
  obtain ⟨A, len, cap, rfl⟩ := okWide_slice Try.underlying22 hv
  refine ⟨A, len, cap, ?_⟩
  obtain ⟨fuel, hf⟩ := h
  rcases open_slice_pairs Try.underlying22 Try.underlying31 (by kernel_rfl) rfl rfl (by kernel_rfl) (by kernel_rfl) hf with ⟨hcs, _⟩ | ⟨a, len', cap', m, n, V0, V1, D0, D1, P0, P1, hcs, _, hl, hm, hmm, hx, hcell⟩
  · simp [Value.cells] at hcs
    obtain ⟨rfl, rfl, rfl⟩ := hcs
    exact ⟨fun _ => 0, fun _ => 0, rfl, by simp, by simp, by decide, fun h => absurd h (by decide)⟩
  · simp [Value.cells] at hcs
    obtain ⟨rfl, rfl, rfl⟩ := hcs
    simp only [if_true] at hmm
    subst hmm
    have key : ∀ i, i < len → (∃ x, W.cell? (a.add (i * 2)) = some (.int .u8 x) ∧ (0 : Int) ≤ x ∧ x ≤ 255) ∧ ∃ y, W.cell? (a.add (i * 2 + 1)) = some (.int .i64 y) ∧ (-9223372036854775808 : Int) ≤ y ∧ y ≤ 9223372036854775807 := by
      intro i hi
      obtain ⟨h0, h1, t0, t1⟩ := hcell i (by omega)
      obtain ⟨x, e0, _, wx⟩ := DataW.trod_int Try.underlying5 t0
      obtain ⟨y, e1, _, wy⟩ := DataW.trod_int Try.underlying3 t1
      simp at e0 e1
      rw [e0] at h0
      rw [e1] at h1
      exact ⟨⟨x, h0, u8_bd wx⟩, y, h1, i64_bd wy⟩
    obtain ⟨what, hw, bw⟩ := choose_int len (fun i x => W.cell? (a.add (i * 2)) = some (.int .u8 x)) 0 255 (by decide) (by decide) (fun i hi => (key i hi).1)
    obtain ⟨slot, hs, bs⟩ := choose_int len (fun i x => W.cell? (a.add (i * 2 + 1)) = some (.int .i64 x)) (-9223372036854775808) 9223372036854775807 (by decide) (by decide) (fun i hi => (key i hi).2)
    refine ⟨what, slot, rfl, bw, bs, by unfold maxLen at hm; omega, fun hpos => ?_⟩
    obtain ⟨b, off, spot⟩ := a
    have h0 := hw 0 hpos
    have hspot : spot = none := by simpa [Addr.add] using World.cell?_spot h0
    subst hspot
    have hb : b < W.heap.size := by
      have hmem : MemPlace.cell b off ∈ p := by
        have := congrArg Prod.snd hx
        simp only at this
        rw [this, List.mem_append]
        left
        simp [MemPlace.row]
        omega
      exact lt _ hmem
    refine ⟨b, off, rfl, hb, fun i hi => ⟨?_, ?_⟩⟩
    · have := hw i hi
      unfold Addr.add at this
      split at this
      · rename_i e; rw [e]; exact this
      · exact this
    · have := hs i hi
      unfold Addr.add at this
      rw [if_neg (by omega)] at this
      exact this

/-- one act by value -/
theorem act_of {H : Type} {enc : TypeId × Value → H} {W : World} {base : Nat} {v : Value} {d : DataW H} {p : List MemPlace} (hv : Value.okWide Try.prog W .any base 31 v)
    (h : DataW.Trod enc Try.prog W 0 (fun _ => true) true 31 v d p) :
    ∃ xw xs, v = .agg #[.int .u8 xw, .int .i64 xs] ∧ (Lit.int .u8 xw).wf = true ∧ (Lit.int .i64 xs).wf = true := by
  obtain ⟨c0, c1, y0, y1, m, rfl, rfl, rfl, hy0, hy1⟩ := Joins.open_agg2 Try.underlying31 (by kernel_rfl) (by kernel_rfl) hv h
  obtain ⟨a, e0, _, wa⟩ := DataW.trod_int Try.underlying5 hy0
  obtain ⟨b, e1, _, wb⟩ := DataW.trod_int Try.underlying3 hy1
  simp at e0 e1
  exact ⟨a, b, by rw [e0, e1], wa, wb⟩
end Go.Proofs.Ytcckppijabajdaa
