/- How the arguments that come in are opened. -/
import Derived.Test.YtccakpbgmgogeaaRawM
import Derived.ProofKit
import Derived.OpenShut
import Derived.ShutString
import Derived.ChangeOld
import Derived.ChangeSlices
import Derived.ChangeMaps5
import Derived.Deep.Strs
namespace Go.Proofs.Ytccakpbgmgogeaa
open Go.ChangeShapes Go.WideShapes Go.ChangeAt Go.RowKit RawPlain Go.Deep

theorem own : ownKnob Try.prog.godebug = none := by kernel_rfl
theorem laidOut : laidOutB Try.prog = true := by kernel_rfl
theorem u8_bd {n : Int} (h : (Lit.int .u8 n).wf = true) : 0 ≤ n ∧ n ≤ 255 := by
  have h' : IntKind.u8.min ≤ n ∧ n ≤ IntKind.u8.max := by simpa [Lit.wf] using h
  exact h'
theorem i64_bd {n : Int} (h : (Lit.int .i64 n).wf = true) : -9223372036854775808 ≤ n ∧ n ≤ 9223372036854775807 := by
  have h' : IntKind.i64.min ≤ n ∧ n ≤ IntKind.i64.max := by simpa [Lit.wf] using h
  exact h'
theorem u64_bd {n : Int} (h : (Lit.int .u64 n).wf = true) : 0 ≤ n ∧ n ≤ 18446744073709551615 := by
  have h' : IntKind.u64.min ≤ n ∧ n ≤ IntKind.u64.max := by simpa [Lit.wf] using h
  exact h'
theorem entry_of {H : Type} {enc : TypeId × Value → H} {W : World} {base : Nat} {v : Value} {d : DataW H} {p : List MemPlace} (hv : Value.okWide Try.prog W .any base 26 v)
    (h : DataW.Trod enc Try.prog W 0 (fun _ => true) true 26 v d p) : ∃ x : E, v = .agg (ev x).toArray ∧ x.Wf := by
  obtain ⟨cs, rfl, hsz⟩ := okWide_struct Try.underlying26 hv
  obtain ⟨l⟩ := cs
  rw [show Try.prog.cellsOf 26 = 9 from by kernel_rfl] at hsz
  match l, hsz with
  | [c0, c1, c2, c3, c4, c5, c6, c7, c8], _ =>
    obtain ⟨fuel, hf⟩ := h
    obtain ⟨xs, n, _, _, _, hlen, hg⟩ := DataW.trod_struct Try.underlying26 hf
    match xs, hlen with
    | [y0, y1, y2, y3, y4], _ =>
      have g0 : DataW.trod enc Try.prog W 0 (fun _ => true) true n 5 (([c0, c1, c2, c3, c4, c5, c6, c7, c8].drop 0).take (Try.prog.cellsOf 5)) = some y0 := hg 0 _ rfl
      have g1 : DataW.trod enc Try.prog W 0 (fun _ => true) true n 3 (([c0, c1, c2, c3, c4, c5, c6, c7, c8].drop 1).take (Try.prog.cellsOf 3)) = some y1 := hg 1 _ rfl
      have g2 : DataW.trod enc Try.prog W 0 (fun _ => true) true n 24 (([c0, c1, c2, c3, c4, c5, c6, c7, c8].drop 2).take (Try.prog.cellsOf 24)) = some y2 := hg 2 _ rfl
      have g3 : DataW.trod enc Try.prog W 0 (fun _ => true) true n 3 (([c0, c1, c2, c3, c4, c5, c6, c7, c8].drop 7).take (Try.prog.cellsOf 3)) = some y3 := hg 3 _ rfl
      have g4 : DataW.trod enc Try.prog W 0 (fun _ => true) true n 5 (([c0, c1, c2, c3, c4, c5, c6, c7, c8].drop 8).take (Try.prog.cellsOf 5)) = some y4 := hg 4 _ rfl
      rw [show Try.prog.cellsOf 5 = 1 from by kernel_rfl] at g0 g4
      rw [show Try.prog.cellsOf 3 = 1 from by kernel_rfl] at g1 g3
      rw [show Try.prog.cellsOf 24 = 5 from by kernel_rfl] at g2
      obtain ⟨xs2, n2, _, _, _, hlen2, hg2⟩ := DataW.trod_struct Try.underlying24 g2
      match xs2, hlen2 with
      | [z0, z1, z2, z3, z4], _ =>
        have k0 : DataW.trod enc Try.prog W 0 (fun _ => true) true n2 5 ((([c2, c3, c4, c5, c6] : List Value).drop 0).take (Try.prog.cellsOf 5)) = some z0 := hg2 0 _ rfl
        have k1 : DataW.trod enc Try.prog W 0 (fun _ => true) true n2 22 ((([c2, c3, c4, c5, c6] : List Value).drop 1).take (Try.prog.cellsOf 22)) = some z1 := hg2 1 _ rfl
        have k2 : DataW.trod enc Try.prog W 0 (fun _ => true) true n2 3 ((([c2, c3, c4, c5, c6] : List Value).drop 2).take (Try.prog.cellsOf 3)) = some z2 := hg2 2 _ rfl
        have k3 : DataW.trod enc Try.prog W 0 (fun _ => true) true n2 3 ((([c2, c3, c4, c5, c6] : List Value).drop 3).take (Try.prog.cellsOf 3)) = some z3 := hg2 3 _ rfl
        have k4 : DataW.trod enc Try.prog W 0 (fun _ => true) true n2 22 ((([c2, c3, c4, c5, c6] : List Value).drop 4).take (Try.prog.cellsOf 22)) = some z4 := hg2 4 _ rfl
        rw [show Try.prog.cellsOf 5 = 1 from by kernel_rfl] at k0
        rw [show Try.prog.cellsOf 22 = 1 from by kernel_rfl] at k1 k4
        rw [show Try.prog.cellsOf 3 = 1 from by kernel_rfl] at k2 k3
        obtain ⟨a0, e0, _, w0⟩ := DataW.trod_int Try.underlying5 g0
        obtain ⟨a1, e1, _, w1⟩ := DataW.trod_int Try.underlying3 g1
        obtain ⟨a2, e2, _, w2⟩ := DataW.trod_int Try.underlying5 k0
        obtain ⟨a3, e3, _, w3⟩ := DataW.trod_int Try.underlying22 k1
        obtain ⟨a4, e4, _, w4⟩ := DataW.trod_int Try.underlying3 k2
        obtain ⟨a5, e5, _, w5⟩ := DataW.trod_int Try.underlying3 k3
        obtain ⟨a6, e6, _, w6⟩ := DataW.trod_int Try.underlying22 k4
        obtain ⟨a7, e7, _, w7⟩ := DataW.trod_int Try.underlying3 g3
        obtain ⟨a8, e8, _, w8⟩ := DataW.trod_int Try.underlying5 g4
        simp at e0 e1 e2 e3 e4 e5 e6 e7 e8
        subst e0 e1 e2 e3 e4 e5 e6 e7 e8
        have b0 := u8_bd w0
        have b1 := i64_bd w1
        have b2 := u8_bd w2
        have b3 := u64_bd w3
        have b4 := i64_bd w4
        have b5 := i64_bd w5
        have b6 := u64_bd w6
        have b7 := i64_bd w7
        have b8 := u8_bd w8
        exact ⟨⟨a0, a1, a2, a3, a4, a5, a6, a7, a8⟩, rfl, ⟨b0.1, b0.2, b1.1, b1.2, b2.1, b2.2, b3.1, b3.2, b4.1, b4.2, b5.1, b5.2, b6.1, b6.2, b7.1, b7.2, b8.1, b8.2⟩⟩
theorem str_of {H : Type} {enc : TypeId × Value → H} {W : World} {base : Nat} {v : Value} {d : DataW H} {p : List MemPlace} (hv : Value.okWide Try.prog W .any base 9 v)
    (h : DataW.Trod enc Try.prog W 0 (fun _ => true) true 9 v d p) : ∃ l : List UInt8, v = .string (bs l) ∧ l.length ≤ 9223372036854775807 := by
  obtain ⟨s, rfl, _, _, hs⟩ := Go.ChangeMaps.open_string Try.underlying9 hv h
  obtain ⟨l, rfl⟩ := bs_of s
  exact ⟨l, rfl, by rw [bs_size] at hs; unfold maxLen at hs; omega⟩
theorem strs_of {H : Type} {enc : TypeId × Value → H} {W : World} {base : Nat} {v : Value} {d : DataW H} {p : List MemPlace} (hv : Value.okWide Try.prog W .any base 40 v)
    (h : DataW.Trod enc Try.prog W 0 (fun _ => true) true 40 v d p) (lt : ∀ x ∈ p, x.block < W.heap.size) : ∃ A len cap f, v = .slice A len cap ∧ Strs W A len f := by
  obtain ⟨A, len, cap, rfl⟩ := okWide_slice Try.underlying40 hv
  refine ⟨A, len, cap, ?_⟩
  obtain ⟨fuel, hf⟩ := h
  rcases open_strs Try.underlying40 Try.underlying9 (by kernel_rfl) hf with ⟨hcs, _⟩ | ⟨a, len', cap', m, Sx, hcs, _, hl, hm, hmm, hx, hcell⟩
  · simp [Value.cells] at hcs
    obtain ⟨rfl, rfl, rfl⟩ := hcs
    exact ⟨fun _ => [], rfl, fun _ => by simp, by omega, fun h => absurd h (by decide)⟩
  · simp [Value.cells] at hcs
    obtain ⟨rfl, rfl, rfl⟩ := hcs
    simp only [if_true] at hmm
    subst hmm
    refine ⟨fun i => if i < len then (Sx i).data.toList else [], rfl, fun i => ?_, by unfold maxLen at hm; omega, fun hpos => ?_⟩
    · by_cases hi : i < len
      · rw [if_pos hi]
        have := (hcell i (by omega)).2
        unfold maxLen at this
        rw [Array.length_toList]
        show (Sx i).size ≤ _
        omega
      · rw [if_neg hi]; simp
    · obtain ⟨b, off, spot⟩ := a
      have h0 := (hcell 0 (by omega)).1
      have hspot : spot = none := by simpa [Addr.add] using World.cell?_spot h0
      subst hspot
      have hb : b < W.heap.size := by
        have hmem : MemPlace.cell b off ∈ p := by
          have := congrArg Prod.snd hx
          simp only at this
          rw [this]
          simp [MemPlace.row]
          omega
        exact lt _ hmem
      refine ⟨b, off, rfl, hb, fun i hi => ?_⟩
      have := (hcell i (by omega)).1
      have hadd : (⟨b, off, none⟩ : Addr).add i = ⟨b, off + i, none⟩ := by unfold Addr.add; split <;> simp_all
      rw [hadd] at this
      rw [this, if_pos hi]
      unfold bs
      simp
end Go.Proofs.Ytccakpbgmgogeaa
