/- The walks of raw's Split and of its reference. -/
import Derived.Test.YtccakpbgmgogeaaRawA
import Derived.OwnWalk
import Derived.Laws.AppendOwn
namespace Go.Proofs.Ytccakpbgmgogeaa
open Go.RowKit RawPlain

theorem info9 : (Try.prog.info? 9).map (fun i => (i.zero, i.size, i.bytes)) = some (some (.string ⟨#[]⟩), 1, 16) := by kernel_rfl
def SV (p : List UInt8) : Value := .string (bs p)
theorem below_drewN {B : Nat} (w : World) (n : Nat) : Below B w (w.drewN n) := ⟨rfl, rfl, rfl, Nat.le_refl _, fun _ _ => rfl⟩
theorem bel {a b c : World} (h : Below a.heap.size a b) (k : Below b.heap.size b c) : Below a.heap.size a c := h.trans (k.mono h.size)
theorem strs_own {w : World} {base n : Nat} {v : Value} {X : List (List UInt8)} (h : w.ownsRow base 9 1 v n (X.map SV)) (hx : ∀ p ∈ X, p.length ≤ 9223372036854775807) (hn : n ≤ 9223372036854775807) :
    ∃ A cap, v = .slice A n cap ∧ n ≤ cap ∧ n = X.length ∧ Strs w A n (fun i => X.getD i []) := by
  have hsz : ∀ i, (X.getD i []).length ≤ 9223372036854775807 := by
    intro i
    rw [List.getD_eq_getElem?_getD]
    cases e : X[i]? with
    | none => simp
    | some p => exact hx p (List.mem_of_getElem? e)
  obtain ⟨hl, ⟨rfl, rfl⟩ | ⟨g, cap, cur, rfl, hb, hg, hc, hm, hs, ht⟩⟩ := h
  · exact ⟨none, 0, rfl, Nat.le_refl _, by simpa using hl.symm, hsz, by omega, fun h => absurd h (by omega)⟩
  · have hlen : n = X.length := by simpa using hl.symm
    refine ⟨_, cap, rfl, hc, hlen, hsz, by omega, fun _ => ⟨g, 0, rfl, ?_, fun i hi => ?_⟩⟩
    · rcases Nat.lt_or_ge g w.heap.size with k | k
      · exact k
      · rw [Array.getElem?_eq_none k] at hg; cases hg
    · rw [Nat.zero_add, cell_of_row w g i cur 9 (0, 0) hg]
      have h1 : (cur.toList.take (n * 1))[i]? = some (.string (bs (X.getD i []))) := by
        rw [ht, List.getElem?_map, List.getElem?_eq_getElem (by omega), List.getD_eq_getElem?_getD, List.getElem?_eq_getElem (by omega)]; rfl
      rw [List.getElem?_take_of_lt (by omega)] at h1
      rw [← Array.getElem?_toList]; exact h1

set_option maxHeartbeats 1000000 in
theorem split_any (l : List UInt8) (hl : l.length ≤ 100000) (w : World) :
    Calls Try.prog 17 #[.string (bs l)] w fun e w' => ∃ v n, e = .returned v ∧ w'.ownsRow w.heap.size 9 1 v n ((pieces l).map SV) ∧ Below w.heap.size w w' := by
  obtain ⟨i0, hi, hz0, hz1, hz2⟩ := info_parts info9
  obtain ⟨P, hP⟩ : ∃ P, pieces l = P := ⟨_, rfl⟩
  rw [hP]
  have HP := Lib.hid hP
  clear hP
  go_enter Try.func17, Try.ntmps17
  go_wp2_with fail
  go_loopw [0, 3] (fun s v wr => ∃ (r : List UInt8) (X : List (List UInt8)) (n : Nat), s = .string (bs r) ∧ P = X ++ pieces r ∧ n + r.length ≤ l.length ∧ wr.ownsRow w.heap.size 9 1 v n (X.map SV) ∧ Below w.heap.size w wr) (fun s _ _ => strLen s)
  case atStart => exact ⟨l, [], 0, rfl, HP.out.symm, by omega, World.ownsRow_nil _ _ _ _, Below.refl _ _⟩
  case round =>
    obtain ⟨r, X, m, rfl, hr, hle, hown, hbel⟩ := hrel
    have HO := Lib.hid hown
    have HB := Lib.hid hbel
    clear hown hbel
    cases r with
    | nil =>
      have e1 := empty_eq
      rw [pieces_nil, List.append_nil] at hr
      subst hr
      go_wp2_with fail
      go_ret
      exact ⟨_, m, rfl, HO.out, HB.out⟩
    | cons n t =>
      have e1 := cons_ne n t
      rw [List.length_cons] at hle
      rw [pieces_cons, show X ++ t.take n.toNat :: pieces (t.drop n.toNat) = (X ++ [t.take n.toNat]) ++ pieces (t.drop n.toNat) from by simp] at hr
      have c : ∃ B : Bool, ∀ w, Calls Try.prog 30 #[.string (bs (n :: t))] w fun e w' => e = .returned (.tuple #[.string (bs (t.take n.toNat)), .string (bs (t.drop n.toNat)), .bool B]) ∧ ∃ k, w' = w.drewN k := by
        by_cases h : n.toNat ≤ t.length
        · exact ⟨true, fun w => cut_yes n t h (by omega) w⟩
        · have := fun w => cut_not n t h (by omega) w
          rw [List.take_of_length_le (by omega), List.drop_of_length_le (by omega)]
          exact ⟨false, this⟩
      obtain ⟨B, c⟩ := c
      have HR := Lib.hid hr
      clear hr
      have hd : (t.drop n.toNat).length ≤ t.length := by simp
      generalize t.take n.toNat = p at *
      generalize t.drop n.toNat = r at *
      go_wp2_with fail
      refine (c _).mono ?_
      rintro e w' ⟨rfl, k2, rfl⟩
      have HO2 : Hid ((wr.drewN k2).ownsRow w.heap.size 9 1 _ m (X.map SV)) := HO
      have HB2 : Hid (Below w.heap.size w (wr.drewN k2)) := Lib.hid (HB.out.trans (below_drewN _ _))
      have hsz : w.heap.size ≤ wr.heap.size := HB.out.size
      clear HO HB
      go_wp2_with (at_builtin; refine wpList_append_own _ rfl _ _ 40 rfl w.heap.size 9 i0 (.string ⟨#[]⟩) 1 16 Try.underlying40 hi hz0 hz1 hz2 rfl (by decide) _ _ _ rfl (HO2.out.alloc _) ⟨wr.heap.size, 0, none⟩ 1 1 [SV p] rfl rfl ?c1 ?c2 ?c3 ?c4 ?c5 ?_)
      case c1 =>
        intro j u hj
        match j, hj with
        | 0, hj => simp at hj; subst hj; simp [Addr.add, SV]; unfold World.alloc World.cell? World.drewN; simp
      case c2 => intro u hu; simp at hu; subst hu; rfl
      case c3 => unfold maxLen; omega
      case c4 => omega
      case c5 => simp; omega
      intro v' w1 hown' hgrow _
      have hb1 := (HB2.out.alloc HB2.out.size _).grown hgrow (by simp; omega) (fun j hj => by have := (HO2.out.lt j hj).1; omega)
      have HO' : Hid (w1.ownsRow w.heap.size 9 1 v' (m + 1) ((X ++ [p]).map SV)) := Lib.hid (by rw [List.map_append]; exact hown')
      have HB' := Lib.hid hb1
      clear hown' hgrow hb1 HO2 HB2
      go_wp2_with fail
      go_roundw
      case rel => exact ⟨r, X ++ [p], m + 1, rfl, HR.out, by omega, HO'.out, HB'.out⟩
      case measure => simp only [strLen, bs_size, List.length_cons]; omega
end Go.Proofs.Ytccakpbgmgogeaa
