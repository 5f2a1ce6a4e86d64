/- How words and numbers that come in are opened. -/
import Derived.Test.YthhlgdjpopdboaaRealI
import Derived.ProofKit
import Derived.OpenShut
import Derived.ShutString
import Derived.ChangeOld
import Derived.ChangeSlices
import Derived.Lib.SmallJoins
namespace Go.Proofs.Ythhlgdjpopdboaa
open Go.ChangeShapes Go.WideShapes Go.ChangeAt Go.RowKit Go.Deep FloatPlain

theorem own : ownKnob Try.prog.godebug = none := by kernel_rfl
theorem laidOut : laidOutB Try.prog = true := by kernel_rfl
theorem cells22 : Try.prog.cellsOf 22 = 1 := by kernel_rfl
theorem cells2 : Try.prog.cellsOf 2 = 1 := by kernel_rfl

theorem i64_bd {n : Int} (h : (Lit.int .i64 n).wf = true) : -9223372036854775808 ≤ n ∧ n ≤ 9223372036854775807 := by
  have h' : IntKind.i64.min ≤ n ∧ n ≤ IntKind.i64.max := by simpa [Lit.wf] using h
  exact h'
theorem u64_nat {n : Int} (h : (Lit.int .u64 n).wf = true) : ∃ m : Nat, n = m ∧ m < 2 ^ 64 := by
  have h' : IntKind.u64.min ≤ n ∧ n ≤ IntKind.u64.max := by simpa [Lit.wf] using h
  have h0 : (0 : Int) ≤ n := h'.1
  have h1 : n ≤ 18446744073709551615 := h'.2
  exact ⟨n.toNat, by omega, by omega⟩

theorem words_of {H : Type} {enc : TypeId × Value → H} {W : World} {base : Nat} {v : Value} {d : DataW H} {p : List MemPlace} (hv : Value.okWide Try.prog W .any base 37 v)
    (h : DataW.Trod enc Try.prog W 0 (fun _ => true) true 37 v d p) (lt : ∀ x ∈ p, x.block < W.heap.size) :
    ∃ A len cap f, v = .slice A len cap ∧ len ≤ cap ∧ Wds W A len f := by
  obtain ⟨A, len, cap, rfl⟩ := okWide_slice Try.underlying37 hv
  refine ⟨A, len, cap, ?_⟩
  obtain ⟨fuel, hf⟩ := h
  rcases open_ints Try.underlying37 Try.underlying22 cells22 hf with ⟨hcs, _⟩ | ⟨a, len', cap', zs, hcs, _, hl, hm, hz, hx, hcell, hwz⟩
  · simp [Value.cells] at hcs
    obtain ⟨rfl, rfl, rfl⟩ := hcs
    exact ⟨fun _ => 0, rfl, Nat.le_refl _, by simp, by decide, fun h => absurd h (by decide)⟩
  · simp [Value.cells] at hcs
    obtain ⟨rfl, rfl, rfl⟩ := hcs
    simp only [if_true] at hz
    have key : ∀ i, ∃ m : Nat, zs.getD i 0 = m ∧ m < 2 ^ 64 := by
      intro i
      rw [List.getD_eq_getElem?_getD]
      cases e : zs[i]? with
      | none => exact ⟨0, rfl, by decide⟩
      | some z => exact u64_nat (hwz z (List.mem_of_getElem? e))
    refine ⟨fun i => (zs.getD i 0).toNat, rfl, hl, fun i => ?_, by unfold maxLen at hm; omega, fun hpos => ?_⟩
    · obtain ⟨m, e, hm'⟩ := key i
      show (zs.getD i 0).toNat < 2 ^ 64
      rw [e]; exact hm'
    obtain ⟨b, off, spot⟩ := a
    have h0 := hcell 0 (by omega)
    have hspot : spot = none := by simpa [Addr.add] using World.cell?_spot h0
    subst hspot
    have hb : b < W.heap.size := by
      have hmem : MemPlace.cell b off ∈ p := by
        have := congrArg Prod.snd hx
        simp only at this
        rw [this]
        simp [MemPlace.row]
        omega
      exact lt _ hmem
    refine ⟨b, off, rfl, hb, fun i hi => ?_⟩
    have hc := hcell i (by omega)
    obtain ⟨m, e, _⟩ := key i
    show W.cell? ⟨b, off + i, none⟩ = some (.int .u64 ((zs.getD i 0).toNat : Nat))
    rw [e] at hc ⊢
    unfold Addr.add at hc
    split at hc
    · rename_i e'; subst e'; exact hc
    · exact hc
/-- numbers in a slice -/
def Nums (w : World) (A : Option Addr) (len : Nat) (f : Nat → Int) : Prop :=
  (∀ i, -9223372036854775808 ≤ f i ∧ f i ≤ 9223372036854775807) ∧ len ≤ 9223372036854775807 ∧
  (0 < len → ∃ b off, A = some ⟨b, off, none⟩ ∧ b < w.heap.size ∧ ∀ i, i < len → w.cell? ⟨b, off + i, none⟩ = some (.int .i64 (f i)))
theorem nums_of {H : Type} {enc : TypeId × Value → H} {W : World} {base : Nat} {v : Value} {d : DataW H} {p : List MemPlace} (hv : Value.okWide Try.prog W .any base 39 v)
    (h : DataW.Trod enc Try.prog W 0 (fun _ => true) true 39 v d p) (lt : ∀ x ∈ p, x.block < W.heap.size) :
    ∃ A len cap f, v = .slice A len cap ∧ len ≤ cap ∧ Nums W A len f := by
  obtain ⟨A, len, cap, rfl⟩ := okWide_slice Try.underlying39 hv
  refine ⟨A, len, cap, ?_⟩
  obtain ⟨fuel, hf⟩ := h
  rcases open_ints Try.underlying39 Try.underlying2 cells2 hf with ⟨hcs, _⟩ | ⟨a, len', cap', zs, hcs, _, hl, hm, hz, hx, hcell, hwz⟩
  · simp [Value.cells] at hcs
    obtain ⟨rfl, rfl, rfl⟩ := hcs
    exact ⟨fun _ => 0, rfl, Nat.le_refl _, by simp, by decide, fun h => absurd h (by decide)⟩
  · simp [Value.cells] at hcs
    obtain ⟨rfl, rfl, rfl⟩ := hcs
    simp only [if_true] at hz
    refine ⟨fun i => zs.getD i 0, rfl, hl, fun i => ?_, by unfold maxLen at hm; omega, fun hpos => ?_⟩
    · simp only [List.getD_eq_getElem?_getD]
      cases e : zs[i]? with
      | none => decide
      | some z => exact i64_bd (hwz z (List.mem_of_getElem? e))
    obtain ⟨b, off, spot⟩ := a
    have h0 := hcell 0 (by omega)
    have hspot : spot = none := by simpa [Addr.add] using World.cell?_spot h0
    subst hspot
    have hb : b < W.heap.size := by
      have hmem : MemPlace.cell b off ∈ p := by
        have := congrArg Prod.snd hx
        simp only at this
        rw [this]
        simp [MemPlace.row]
        omega
      exact lt _ hmem
    refine ⟨b, off, rfl, hb, fun i hi => ?_⟩
    have hc := hcell i (by omega)
    unfold Addr.add at hc
    split at hc
    · rename_i e'; subst e'; exact hc
    · exact hc
end Go.Proofs.Ythhlgdjpopdboaa
