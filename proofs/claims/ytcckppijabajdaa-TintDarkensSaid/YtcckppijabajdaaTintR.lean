/- The reference of package tint over the translation. -/
import Derived.Test.YtcckppijabajdaaTintB
import Derived.Maps.AppendAt
import Derived.Deep.AppendLies
namespace Go.Proofs.Ytcckppijabajdaa
open Go.RowKit

/-- a slice of colours that is only read -/
def Qr (w : World) (v : Value) (cs : List Int) : Prop :=
  ∃ g c, v = .slice (some ⟨g, 0, none⟩) cs.length c ∧ g < w.heap.size ∧ (∀ i, i < cs.length → w.cell? ⟨g, i, none⟩ = some (.int .u8 (cs.getD i 0))) ∧ cs.length ≤ 65536
theorem Qr.keep {w w' : World} {v : Value} {cs : List Int} (h : Qr w v cs) (hs : w.heap.size ≤ w'.heap.size) (hk : ∀ g c, v = .slice (some ⟨g, 0, none⟩) cs.length c → w'.heap[g]? = w.heap[g]?) : Qr w' v cs := by
  obtain ⟨g, c, rfl, hg, hc, hn⟩ := h
  exact ⟨g, c, rfl, by omega, fun i hi => (World.cell?_of_block (w := w) (hk g c rfl)).trans (hc i hi), hn⟩
theorem Qr.below {w w' : World} {v : Value} {cs : List Int} (h : Qr w v cs) (hb : Below w.heap.size w w') : Qr w' v cs :=
  h.keep hb.size fun g c e => by
    obtain ⟨g', c', e', hg, _⟩ := h
    rw [e] at e'; injection e' with e1 e2 e3; injection e1 with e1; injection e1 with e1
    subst e1
    exact hb.block g hg

theorem info5 : (Try.prog.info? 5).map (fun i => (i.zero, i.size, i.bytes)) = some (some (.int .u8 0), 1, 1) := by kernel_rfl

theorem rOf_any (w : World) (v : Value) (cs : List Int) (s : Int) (h : Qr w v cs) :
    Calls Try.prog 16 #[v, .int .i64 s] w fun e w' => e = .returned (.tuple #[.int .u8 (ofC cs s), .int .i64 (ofE cs.length s)]) ∧ w = w' := by
  obtain ⟨g, c, rfl, hg, hc, hn⟩ := h
  by_cases hs : 0 ≤ s ∧ s < cs.length
  · have e2 : ofE cs.length s = 0 := by unfold ofE; rw [if_pos hs]
    have e1 : ofC cs s = cs.getD s.toNat 0 := by unfold ofC; rw [if_pos hs]
    rw [e2, e1]
    obtain ⟨k, rfl⟩ := Int.eq_ofNat_of_zero_le hs.1
    have hk : k < cs.length := by omega
    have hc1 := hc k hk
    rw [Int.toNat_natCast]
    clear e1 e2 hs hc
    generalize cs.getD k 0 = y at *
    go_enter Try.func16, Try.ntmps16
    go_wp2
    go_ret2
    exact ⟨rfl, rfl⟩
  · have e2 : ofE cs.length s = 2 := by unfold ofE; rw [if_neg hs]
    have e1 : ofC cs s = 0 := by unfold ofC; rw [if_neg hs]
    rw [e2, e1]
    have hs' : s < 0 ∨ cs.length ≤ s := by omega
    clear e1 e2 hs hc
    rcases hs' with hs | hs
    all_goals
      go_enter Try.func16, Try.ntmps16
      go_wp2
      go_ret2
      exact ⟨rfl, rfl⟩

theorem rCount_any (w : World) (v : Value) (cs : List Int) (c : Int) (h : Qr w v cs) :
    Calls Try.prog 17 #[v, .int .u8 c] w fun e w' => e = .returned (.int .i64 (cnt cs c)) ∧ w = w' := by
  obtain ⟨g, cap, rfl, hg, hc, hn⟩ := h
  have hb2 : ∀ k, cnt (cs.take k) c ≤ 65536 := fun k => Nat.le_trans (cnt_le _ c) (by simp; omega)
  generalize hnn : cs.length = n at *
  have HL := Lib.hid hnn
  clear hnn
  go_enter Try.func17, Try.ntmps17
  go_wp2_with fail
  go_loop [5, 6] (fun t i => ∃ k : Nat, k ≤ n ∧ i = .int .i64 k ∧ t = .int .i64 (cnt (cs.take k) c)) (fun _ i => n - (intOf i).toNat)
  case atStart => exact ⟨0, Nat.zero_le _, rfl, rfl⟩
  case round =>
    obtain ⟨k, hk, rfl, rfl⟩ := hrel
    have hb3 := hb2 k
    by_cases hlt : k < n
    · have hc1 := hc k hlt
      have HS := cnt_snoc cs k c (by rw [HL.out]; exact hlt)
      clear hc hb2
      by_cases hx : cs.getD k 0 = c
      · have hx' : (cs.getD k 0 == c) = true := by rw [beq_iff_eq]; exact hx
        rw [hx', if_pos rfl] at HS
        rw [hx] at hc1
        have HT := Lib.hid HS
        clear hx hx' HS
        go_wp2
        go_round
        case rel => exact ⟨k + 1, by omega, by go_num, by rw [HT.out]; go_num⟩
        case measure => simp [intOf]; omega
      · have hx' : (cs.getD k 0 == c) = false := by rw [beq_eq_false_iff_ne]; exact hx
        generalize cs.getD k 0 = y at *
        rw [hx', if_neg (by decide)] at HS
        have HT := Lib.hid HS
        clear hx HS
        go_wp2
        go_round
        case rel => exact ⟨k + 1, by omega, by go_num, by rw [HT.out]; rfl⟩
        case measure => simp [intOf]; omega
    · clear hc hb2
      have e : cs.take k = cs := List.take_of_length_le (by have := HL.out; omega)
      rw [e]
      clear e
      go_wp2
      go_ret
      exact ⟨rfl, rfl⟩

theorem qr_of_own {w : World} {B g cap n : Nat} {xs : List Value} (cs : List Int) (h : w.ownsRow B 5 1 (.slice (some ⟨g, 0, none⟩) n cap) n xs) (hxs : xs = cs.map (Value.int .u8)) (hl : cs.length = n) (hn : cs.length ≤ 65536) :
    Qr w (.slice (some ⟨g, 0, none⟩) n cap) cs := by
  refine ⟨g, cap, by rw [hl], (h.lt g rfl).2, fun i hi => ?_, hn⟩
  rw [h.cellAt i (by omega), hxs]
  simp [hi]

theorem with_raw (w : World) (g k n cap : Nat) (cs : List Int) (c : Int) (hg : g < w.heap.size) (hc : ∀ i, i < cs.length → w.cell? ⟨g, i, none⟩ = some (.int .u8 (cs.getD i 0))) (hn : n ≤ 65536) (hk : k < n) (hl : cs.length = n) :
    Calls Try.prog 21 #[.slice (some ⟨g, 0, none⟩) n cap, .int .i64 k, .int .u8 c] w fun e w' => (∃ v, e = .returned v ∧ Qr w' v (cs.set k c)) ∧ Below w.heap.size w w' := by
  obtain ⟨i0, hi, hz0, hz1, hz2⟩ := info_parts info5
  have hown : (w.alloc (.cells #[] 5)).ownsRow w.heap.size 5 1 (.slice (some ⟨w.heap.size, 0, none⟩) 0 0) 0 [] :=
    ⟨rfl, .inr ⟨w.heap.size, 0, #[], rfl, Nat.le_refl _, heap_alloc_new _ _, Nat.le_refl _, by decide, rfl, rfl⟩⟩
  have HC : Hid (∀ j u, (cs.map (Value.int .u8))[j]? = some u → (w.alloc (.cells #[] 5)).cell? ((⟨g, 0, none⟩ : Addr).add j) = some u) := by
    intro j u hj
    have hjl : j < cs.length := by
      have := (List.getElem?_eq_some_iff.1 hj).1
      simpa using this
    have : (⟨g, 0, none⟩ : Addr).add j = ⟨g, j, none⟩ := by unfold Addr.add; split <;> simp_all
    rw [this, World.cell?_alloc_past _ _ _ hg, hc j hjl, ← hj]
    simp [hjl]
  have HL := Lib.hid hl
  clear hc hl
  go_enter Try.func21, Try.ntmps21
  go_wp2_with (at_builtin; refine wpList_append_own _ rfl (.tmp 8) (.tmp 9) 29 rfl w.heap.size 5 i0 (.int .u8 0) 1 1 Try.underlying29 hi hz0 hz1 hz2 rfl (by decide) (.slice (some ⟨w.heap.size, 0, none⟩) 0 0) 0 [] rfl hown ⟨g, 0, none⟩ n cap (cs.map (Value.int .u8)) rfl ?c1 HC.out ?c2 ?c3 ?c4 ?c5 ?_)
  case c1 => simp [HL.out]
  case c2 => intro u hu; obtain ⟨x, _, rfl⟩ := List.mem_map.1 hu; rfl
  case c3 => unfold maxLen; omega
  case c4 => omega
  case c5 => simp
  · intro v' w1 hown0 hgrow _
    have hown' : w1.ownsRow w.heap.size 5 1 v' n (cs.map (Value.int .u8)) := hown0
    clear hown0
    obtain ⟨g1, cap1, hv, hb1, hlt1⟩ := hown'.form (by omega)
    rw [hv] at hown'
    rw [hv]
    clear hv
    have hbel : Below w.heap.size w w1 := ((Below.refl _ _).alloc (Nat.le_refl _) _).grown hgrow (by simp) (fun k hk => by simp [Value.ownBlock] at hk; omega)
    have hcell := hown'.cellAt k (by omega)
    have hold : ∃ y, w1.cell? ⟨g1, k, none⟩ = some y := by
      rw [hcell]
      have := HL.out
      exact ⟨.int .u8 (cs.getD k 0), by simp [show k < cs.length from by omega]⟩
    obtain ⟨y, hy⟩ := hold
    have hfz := hown'.frozenAt k
    have hst := hown'.stored k (.int .u8 c)
    have HST := Lib.hid hst
    have HB := Lib.hid hbel
    clear hst hbel hcell hgrow hown'
    go_wp2
    go_ret
    refine ⟨⟨_, rfl, ?_⟩, HB.out.setCell hb1 _⟩
    have hfin := qr_of_own (cs.set k c) HST.out.1 (by rw [List.map_set]) (by simp [HL.out]) (by simp [HL.out, hn])
    simpa using hfin

theorem with_any (w : World) (v : Value) (k : Nat) (cs : List Int) (c : Int) (h : Qr w v cs) (hk : k < cs.length) :
    Calls Try.prog 21 #[v, .int .i64 k, .int .u8 c] w fun e w' => (∃ v, e = .returned v ∧ Qr w' v (cs.set k c)) ∧ Below w.heap.size w w' := by
  obtain ⟨g, cap, rfl, hg, hc, hn⟩ := h
  exact with_raw w g k cs.length cap cs c hg hc hn hk rfl

/-- three results, the first a slice of colours -/
def Gave3 (w w' : World) (cs : List Int) (b : Bool) (n : Int) (e : Ending) : Prop := ∃ v, e = .returned (.tuple #[v, .bool b, .int .i64 n]) ∧ Qr w' v cs ∧ Below w.heap.size w w'
def Gave2 (w w' : World) (cs : List Int) (n : Int) (e : Ending) : Prop := ∃ v, e = .returned (.tuple #[v, .int .i64 n]) ∧ Qr w' v cs ∧ Below w.heap.size w w'

theorem rShade_any (w : World) (v : Value) (cs : List Int) (s : Int) (h : Qr w v cs) :
    Calls Try.prog 13 #[v, .int .i64 s] w fun e w' => Gave3 w w' (shC cs s) (shB cs s) (ofE cs.length s) e := by
  have hO := rOf_any w v cs s h
  by_cases hs : 0 ≤ s ∧ s < cs.length
  · have e2 : ofE cs.length s = 0 := by unfold ofE; rw [if_pos hs]
    have e1 : ofC cs s = cs.getD s.toNat 0 := by unfold ofC; rw [if_pos hs]
    have e3 : shB cs s = (cs.getD s.toNat 0 == 0) := by unfold shB; rw [decide_eq_true hs, Bool.true_and]
    rw [e2] at hO ⊢
    rw [e1] at hO
    by_cases h0 : cs.getD s.toNat 0 = 0
    · have e4 : shB cs s = true := by rw [e3, h0]; rfl
      have e5 : shC cs s = cs.set s.toNat 1 := by unfold shC; rw [if_pos e4]
      rw [e4, e5]
      rw [h0] at hO
      have hW := with_any w v s.toNat cs 1 h (by omega)
      rw [show ((s.toNat : Nat) : Int) = s from by omega] at hW
      clear e1 e2 e3 e4 e5 h0 hs h
      go_enter Try.func13, Try.ntmps13
      go_wp2_with (first | (go_at_call 16; refine hO.mono ?_; rintro e w' ⟨rfl, rfl⟩) | (go_at_call 21; refine hW.mono ?_; rintro e w' ⟨⟨v1, rfl, hq⟩, hb⟩))
      go_ret3
      exact ⟨_, rfl, hq, hb⟩
    · have e4 : shB cs s = false := by rw [e3, beq_eq_false_iff_ne]; exact h0
      have e5 : shC cs s = cs := by unfold shC; rw [if_neg (by rw [e4]; decide)]
      rw [e4, e5]
      have h0' : (cs.getD s.toNat 0 == 0) = false := by rw [beq_eq_false_iff_ne]; exact h0
      clear e1 e2 e3 e4 e5 h0 hs
      generalize cs.getD s.toNat 0 = y at *
      go_enter Try.func13, Try.ntmps13
      go_wp2_with (go_at_call 16; refine hO.mono ?_; rintro e w' ⟨rfl, rfl⟩)
      go_ret3
      exact ⟨_, rfl, h, Below.refl _ _⟩
  · have e2 : ofE cs.length s = 2 := by unfold ofE; rw [if_neg hs]
    have e3 : shB cs s = false := by unfold shB; rw [decide_eq_false hs, Bool.false_and]
    have e4 : shC cs s = cs := by unfold shC; rw [if_neg (by rw [e3]; decide)]
    rw [e2] at hO ⊢
    rw [e3, e4]
    clear e2 e3 e4 hs
    generalize ofC cs s = y at *
    go_enter Try.func13, Try.ntmps13
    go_wp2_with (go_at_call 16; refine hO.mono ?_; rintro e w' ⟨rfl, rfl⟩)
    go_ret3
    exact ⟨_, rfl, h, Below.refl _ _⟩

theorem rBlack_any (w : World) (v : Value) (cs : List Int) (s : Int) (h : Qr w v cs) :
    Calls Try.prog 10 #[v, .int .i64 s] w fun e w' => Gave2 w w' (blC cs s) (ofE cs.length s) e := by
  have hO := rOf_any w v cs s h
  by_cases hs : 0 ≤ s ∧ s < cs.length
  · have e2 : ofE cs.length s = 0 := by unfold ofE; rw [if_pos hs]
    have e5 : blC cs s = cs.set s.toNat 2 := by unfold blC; rw [if_pos hs]
    rw [e2] at hO ⊢
    rw [e5]
    have hW := with_any w v s.toNat cs 2 h (by omega)
    rw [show ((s.toNat : Nat) : Int) = s from by omega] at hW
    clear e2 e5 hs h
    generalize ofC cs s = y at *
    go_enter Try.func10, Try.ntmps10
    go_wp2_with (first | (go_at_call 16; refine hO.mono ?_; rintro e w' ⟨rfl, rfl⟩) | (go_at_call 21; refine hW.mono ?_; rintro e w' ⟨⟨v1, rfl, hq⟩, hb⟩))
    go_ret2
    exact ⟨_, rfl, hq, hb⟩
  · have e2 : ofE cs.length s = 2 := by unfold ofE; rw [if_neg hs]
    have e4 : blC cs s = cs := by unfold blC; rw [if_neg hs]
    rw [e2] at hO ⊢
    rw [e4]
    clear e2 e4 hs
    generalize ofC cs s = y at *
    go_enter Try.func10, Try.ntmps10
    go_wp2_with (go_at_call 16; refine hO.mono ?_; rintro e w' ⟨rfl, rfl⟩)
    go_ret2
    exact ⟨_, rfl, h, Below.refl _ _⟩
end Go.Proofs.Ytcckppijabajdaa
