/- What Ask and Pay do to a pacer. -/
import Derived.Test.YtembhdlhhhdpiaaPaceOps
import Derived.Deep.DeepCutAuto
import Derived.Deep.CutRange
import Derived.Deep.RegionHeld3
namespace Go.Proofs.Ytembhdlhhhdpiaa
open Go.RowKit SatPlain

def askE (n : Int) : Int := if n < 1 then 2 else 0
def deA (c : PP) (n : Int) : Int := if c.ac then clip (c.de + clip (n * c.ast)) else c.de
def askD (c : PP) (n : Int) : Int := if n < 1 then 0 else if clip (c.si + n) < c.tr then 0 else if c.ac then 2 else 1
def askC (c : PP) (n : Int) : PP := if n < 1 then c else { c with si := if clip (c.si + n) < c.tr then clip (c.si + n) else 0, tot := clip (c.tot + n), de := deA c n }
theorem askC_good {c : PP} (g : c.Good) (n : Int) : (askC c n).Good := by
  unfold askC
  split
  · exact g
  · have t0 := g.tr0
    refine ⟨g.tr0, g.tr1, g.as0, g.as1, ?_, ?_, Mst.clip _, ?_, g.cy⟩
    · simp only; split
      · exact clip_lo _
      · exact Int.le_refl _
    · simp only; split <;> omega
    · show Mst (deA c n)
      unfold deA; split
      · exact Mst.clip _
      · exact g.de

theorem pAsk_no (w : World) (p : Nat) (c : PP) (n : Int) (h : Pc w p c) (hz : 1 ≤ c.tr) (hn : n < 1) :
    Calls Try.prog 11 #[.pointer (some ⟨p, 0, none⟩), .int .i64 n] w fun e w' => e = .returned (.tuple #[.int .u8 0, .int .i64 2]) ∧ w = w' := by
  have d := none_any w p c h hz
  clear h
  go_enter Try.func11, Try.ntmps11
  go_wp2_with (go_at_call 26; refine d.mono ?_; rintro e w' ⟨rfl, rfl⟩)
  go_ret2
  exact ⟨rfl, rfl⟩
theorem pAsk_none (w : World) (v : Value) (n : Int) (d : Calls Try.prog 26 #[v] w fun e w' => e = .returned (.bool true) ∧ w = w') :
    Calls Try.prog 11 #[v, .int .i64 n] w fun e w' => e = .returned (.tuple #[.int .u8 0, .int .i64 1]) ∧ w = w' := by
  go_enter Try.func11, Try.ntmps11
  go_wp2_with (go_at_call 26; refine d.mono ?_; rintro e w' ⟨rfl, rfl⟩)
  go_ret2
  exact ⟨rfl, rfl⟩

/-- since and total are counted -/
def at1 (c : PP) (n : Int) : PP := { c with si := clip (c.si + n), tot := clip (c.tot + n) }
def at2 (c : PP) (n : Int) : PP := { at1 c n with de := deA c n }
def at3 (c : PP) (n : Int) : PP := { at1 c n with de := deA c n, si := 0 }
theorem ask_lo {c : PP} {n : Int} (hn : 1 ≤ n) (hs : clip (c.si + n) < c.tr) : askD c n = 0 ∧ askC c n = at2 c n := by
  have h1 : ¬ n < 1 := by omega
  unfold askD askC; rw [if_neg h1, if_neg h1, if_pos hs, if_pos hs]; exact ⟨rfl, rfl⟩
theorem ask_on {c : PP} {n : Int} (hn : 1 ≤ n) (hs : ¬ clip (c.si + n) < c.tr) (ha : c.ac = true) : askD c n = 2 ∧ askC c n = at3 c n := by
  have h1 : ¬ n < 1 := by omega
  unfold askD askC; rw [if_neg h1, if_neg h1, if_neg hs, if_neg hs]; exact ⟨by rw [ha]; rfl, rfl⟩
theorem ask_off {c : PP} {n : Int} (hn : 1 ≤ n) (hs : ¬ clip (c.si + n) < c.tr) (ha : c.ac = false) : askD c n = 1 ∧ askC c n = at3 c n := by
  have h1 : ¬ n < 1 := by omega
  unfold askD askC; rw [if_neg h1, if_neg h1, if_neg hs, if_neg hs]; exact ⟨by rw [ha]; rfl, rfl⟩
theorem at2_off {c : PP} {n : Int} (ha : c.ac = false) : at2 c n = at1 c n := by
  unfold at2 deA; rw [ha, if_neg (by decide)]; rfl
theorem at3_off {c : PP} {n : Int} (ha : c.ac = false) : at3 c n = { at1 c n with si := 0 } := by
  unfold at3 deA; rw [ha, if_neg (by decide)]; rfl
theorem at2_on {c : PP} {n : Int} (ha : c.ac = true) : at2 c n = { at1 c n with de := clip (c.de + clip (n * c.ast)) } := by
  unfold at2 deA; rw [ha, if_pos rfl]
set_option maxHeartbeats 8000000 in
theorem pAsk_yes (w : World) (p : Nat) (c : PP) (n : Int) (h : Pc w p c) (g : c.Good) (hn : 1 ≤ n) (hn' : n ≤ 9223372036854775807) :
    Calls Try.prog 11 #[.pointer (some ⟨p, 0, none⟩), .int .i64 n] w fun e w' => e = .returned (.tuple #[.int .u8 (askD c n), .int .i64 0]) ∧ Pc w' p (askC c n) ∧ Only w w' p := by
  have d := none_any w p c h g.tr0
  have e2 : w.cell? ⟨p, 2, none⟩ = some (.int .i64 c.si) := h.cells.c2
  have e3 : w.cell? ⟨p, 3, none⟩ = some (.int .i64 c.tot) := h.cells.c3
  have f2 := fz h 2
  have f3 := fz h 3
  have nI : I64 n := ⟨by omega, hn'⟩
  have t0 := g.tr0
  have t1 := g.tr1
  have a1 := fun w => pAdd_any c.si n ⟨by have := g.si0; omega, by have := g.si1; omega⟩ nI w
  have a2 := fun w => pAdd_any c.tot n g.tot.i64 nI w
  have HP := Lib.hid h
  have HG := Lib.hid g
  clear h g
  go_enter Try.func11, Try.ntmps11
  go_upto_region 6 with (go_at_call 26; refine d.mono ?_; rintro e w' ⟨rfl, rfl⟩)
  go_cut [] (fun wx => Pc wx p (at1 c n) ∧ Only w wx p)
  case first =>
    go_region_with (first | (go_at_call_of 25 (Value.int IntKind.i64 c.si); refine (a1 _).mono ?_; rintro e w' ⟨rfl, rfl⟩) | (go_at_call_of 25 (Value.int IntKind.i64 c.tot); refine (a2 _).mono ?_; rintro e w' ⟨rfl, rfl⟩))
    all_goals (go_wp2_with fail; go_meet; exact ⟨setOf (setOf HP.out 2 _) 3 _, (((Only.refl _ _).stored _ _).stored _ _).drew⟩)
  case rest =>
    obtain ⟨h1, o1⟩ := hcut
    clear a1 a2 e2 e3 f2 f3 d
    have k0 : wc.cell? ⟨p, 0, none⟩ = some (.int .i64 c.tr) := h1.cells.c0
    have k1 : wc.cell? ⟨p, 1, none⟩ = some (.int .i64 c.ast) := h1.cells.c1
    have k2 : wc.cell? ⟨p, 2, none⟩ = some (.int .i64 (clip (c.si + n))) := h1.cells.c2
    have k4 : wc.cell? ⟨p, 4, none⟩ = some (.int .i64 c.de) := h1.cells.c4
    have k6 : wc.cell? ⟨p, 6, none⟩ = some (.bool c.ac) := h1.cells.c6
    have f2 := fz h1 2
    have f4 := fz h1 4
    have O1 := Lib.hid o1
    have H1 := Lib.hid h1
    clear h1 o1
    by_cases ha : c.ac = false
    · rw [ha] at k6
      by_cases hs : clip (c.si + n) < c.tr
      · obtain ⟨dd, cc⟩ := ask_lo hn hs
        rw [at2_off ha] at cc
        have DD := Lib.hid dd
        have CC := Lib.hid cc
        clear dd cc
        go_wp2_with fail
        go_region
        go_wp2_with fail
        go_ret2
        exact ⟨by rw [DD.out]; rfl, by rw [CC.out]; exact H1.out, O1.out.drew⟩
      · obtain ⟨dd, cc⟩ := ask_off hn hs ha
        rw [at3_off ha] at cc
        have DD := Lib.hid dd
        have CC := Lib.hid cc
        clear dd cc
        go_wp2_with fail
        go_region
        go_wp2_with fail
        go_ret2
        exact ⟨by rw [DD.out]; rfl, by rw [CC.out]; exact setOf H1.out 2 _, (O1.out.drew).stored _ _⟩
    · have ha : c.ac = true := by simpa using ha
      rw [ha] at k6
      have b1 := fun w => pMul_any n c.ast nI ⟨by have := HG.out.as0; omega, by have := HG.out.as1; omega⟩ w
      have b2 := fun w => pAdd_any c.de (clip (n * c.ast)) HG.out.de.i64 (I64.clip _) w
      go_upto_region 9 with fail
      go_cut [] (fun wx => Pc wx p (at2 c n) ∧ Only w wx p)
      case first =>
        go_region_with (first | (go_at_call 27; refine (b1 _).mono ?_; rintro e w' ⟨rfl, rfl⟩) | (go_at_call 25; refine (b2 _).mono ?_; rintro e w' ⟨rfl, rfl⟩))
        all_goals (go_wp2_with fail; go_meet; rw [at2_on ha]; exact ⟨setOf H1.out 4 _, ((O1.out).stored _ _).drew⟩)
      case rest =>
        obtain ⟨h2, o2⟩ := hcut
        clear k0 k1 k2 k4 k6 f2 f4 b1 b2
        have k0 : wc.cell? ⟨p, 0, none⟩ = some (.int .i64 c.tr) := h2.cells.c0
        have k2 : wc.cell? ⟨p, 2, none⟩ = some (.int .i64 (clip (c.si + n))) := h2.cells.c2
        have f2 := fz h2 2
        have O2 := Lib.hid o2
        have H2 := Lib.hid h2
        clear h2 o2
        by_cases hs : clip (c.si + n) < c.tr
        · obtain ⟨dd, cc⟩ := ask_lo hn hs
          have DD := Lib.hid dd
          have CC := Lib.hid cc
          clear dd cc
          go_wp2_with fail
          go_region
          go_wp2_with fail
          go_ret2
          exact ⟨by rw [DD.out]; rfl, by rw [CC.out]; exact H2.out, O2.out.drew⟩
        · obtain ⟨dd, cc⟩ := ask_on hn hs ha
          have DD := Lib.hid dd
          have CC := Lib.hid cc
          clear dd cc
          go_wp2_with fail
          go_region
          go_wp2_with fail
          go_ret2
          exact ⟨by rw [DD.out]; rfl, by rw [CC.out]; exact setOf H2.out 2 _, (O2.out.drew).stored _ _⟩
theorem pAsk_any (w : World) (p : Nat) (c : PP) (n : Int) (h : Pc w p c) (g : c.Good) (hn' : n ≤ 9223372036854775807) :
    Calls Try.prog 11 #[.pointer (some ⟨p, 0, none⟩), .int .i64 n] w fun e w' => e = .returned (.tuple #[.int .u8 (askD c n), .int .i64 (askE n)]) ∧ Pc w' p (askC c n) ∧ Only w w' p := by
  by_cases hn : n < 1
  · have e1 : askD c n = 0 := by unfold askD; rw [if_pos hn]
    have e2 : askE n = 2 := by unfold askE; rw [if_pos hn]
    have e3 : askC c n = c := by unfold askC; rw [if_pos hn]
    rw [e1, e2, e3]
    refine (pAsk_no w p c n h g.tr0 hn).mono ?_
    rintro e w' ⟨rfl, rfl⟩
    exact ⟨rfl, h, Only.refl _ _⟩
  · have e2 : askE n = 0 := by unfold askE; rw [if_neg hn]
    rw [e2]
    exact pAsk_yes w p c n h g (by omega) hn'
end Go.Proofs.Ytembhdlhhhdpiaa
