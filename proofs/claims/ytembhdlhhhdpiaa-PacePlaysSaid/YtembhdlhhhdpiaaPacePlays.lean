/- The walk of PacePlays. -/
import Derived.Test.YtembhdlhhhdpiaaPaceDoesC
import Derived.Outline
namespace Go.Proofs.Ytembhdlhhhdpiaa
open Go.RowKit SatPlain

theorem plays_out (w : World) (q t k a : Int) (A : Option Addr) (len cap : Nat) (hf : ¬ Fit t a) :
    Calls Try.prog 5 #[TV q t k a, .slice A len cap] w fun e w' => e = .returned (.bool true) ∧ Below w.heap.size w w' := by
  have n0 := fun w => pNew_out w q t k a hf
  have r0 := fun w => rNew_out w q t k a hf
  have aw := fun w => awake_any w
  have b0 : Below w.heap.size w (w.alloc (.cells #[.int .i64 q, .int .i64 t, .int .i64 k, .int .i64 a] 23)) := (Below.refl _ _).alloc (Nat.le_refl _) _
  have TB0 := Lib.hid (TB.new w q t k a)
  have B0 := Lib.hid b0
  clear b0 hf
  unfold TV at n0 r0 ⊢
  unfold RV new0 at r0
  go_enter Try.func5, Try.ntmps5
  go_wp2_with fail
  refine (n0 _).mono ?_
  rintro e w1 ⟨rfl, b1⟩
  obtain ⟨d0, d1, d2, d3⟩ := (TB0.out.below b1 (ltOf TB0.out)).cells
  have B1 := Lib.hid (B0.out.trans (b1.mono (B0.out.size)))
  clear b1 B0
  go_wp2_with fail
  refine (r0 _).mono ?_
  rintro e w2 ⟨rfl, b2⟩
  clear d0 d1 d2 d3 TB0
  have B2 := Lib.hid ((B1.out.trans (b2.mono (B1.out.size))))
  clear b2 B1
  go_wp2_with fail
  refine (aw _).mono ?_
  rintro e w3 ⟨rfl, b3⟩
  have B3 := Lib.hid ((B2.out.alloc B2.out.size (.cells #[.int .i64 0, .int .i64 0, .int .i64 0, .int .i64 0, .bool false, .int .i64 0, .int .i64 0, .int .i64 0, .int .i64 0] 40)).trans (b3.mono (B2.out.alloc B2.out.size _).size))
  go_wp2_with fail
  go_ret
  exact ⟨rfl, B3.out⟩

/-- a pacer and the reference's, of the same counts -/
structure Pair (w0 wr : World) (p bq : Nat) (q k : Int) (c : PP) : Prop where
  hp : Pc wr p c
  hq : RB wr bq q k c
  good : c.Good
  bel : Below w0.heap.size w0 wr
  ne : p ≠ bq
  lp : w0.heap.size ≤ p
  lq : w0.heap.size ≤ bq

/-- behind an act: the pacer has done it, the reference's next one lies in v's block -/
def Mid (wr wx : World) (p : Nat) (q k : Int) (c' : PP) (v : Value) : Prop :=
  ∃ b, v = .pointer (some ⟨b, 0, none⟩) ∧ Pc wx p c' ∧ RB wx b q k c' ∧ Only wr wx p ∧ wr.heap.size ≤ b
/-- of blocks that were there none but p and q have turned -/
structure Only2 (w w' : World) (p q : Nat) : Prop where
  os : w'.os = w.os
  tape : w'.tape = w.tape
  output : w'.output = w.output
  size : w.heap.size ≤ w'.heap.size
  block : ∀ k, k < w.heap.size → k ≠ p → k ≠ q → w'.heap[k]? = w.heap[k]?
theorem Only.undrew {w w' : World} {p : Nat} (h : Only w.drew w' p) : Only w w' p := ⟨h.os, h.tape, h.output, h.size, h.block⟩
theorem Only.unalloc {w w' : World} {o : Obj} {p : Nat} (h : Only (w.alloc o).drew w' p) : Only w w' p := (Only.ofBelow ((Below.refl _ _).alloc (Nat.le_refl _) o)).trans h.undrew
/-- the nine cells of a reference's pacer -/
abbrev set9 (w : World) (b : Nat) (q k : Int) (c : PP) : World := ((((((((w.setCell ⟨b, 0, none⟩ (.int .i64 q)).setCell ⟨b, 1, none⟩ (.int .i64 c.tr)).setCell ⟨b, 2, none⟩ (.int .i64 k)).setCell ⟨b, 3, none⟩ (.int .i64 c.ast)).setCell ⟨b, 4, none⟩ (.bool c.ac)).setCell ⟨b, 5, none⟩ (.int .i64 c.si)).setCell ⟨b, 6, none⟩ (.int .i64 c.tot)).setCell ⟨b, 7, none⟩ (.int .i64 c.de)).setCell ⟨b, 8, none⟩ (.int .i64 c.cy)
theorem set9_of {w : World} {b : Nat} {t : TypeId} (v0 v1 v2 v3 v4 v5 v6 v7 v8 u0 u1 u2 u3 u4 u5 u6 u7 u8 : Value) (h : w.heap[b]? = some (.cells #[v0, v1, v2, v3, v4, v5, v6, v7, v8] t (0, 0))) :
    (((((((((w.setCell ⟨b, 0, none⟩ u0).setCell ⟨b, 1, none⟩ u1).setCell ⟨b, 2, none⟩ u2).setCell ⟨b, 3, none⟩ u3).setCell ⟨b, 4, none⟩ u4).setCell ⟨b, 5, none⟩ u5).setCell ⟨b, 6, none⟩ u6).setCell ⟨b, 7, none⟩ u7).setCell ⟨b, 8, none⟩ u8).heap[b]? = some (.cells #[u0, u1, u2, u3, u4, u5, u6, u7, u8] t (0, 0)) := by
  have h0 : (w.setCell ⟨b, 0, none⟩ u0).heap[b]? = some (.cells #[u0, v1, v2, v3, v4, v5, v6, v7, v8] t (0, 0)) := setOf h 0 u0
  have h1 : ((w.setCell ⟨b, 0, none⟩ u0).setCell ⟨b, 1, none⟩ u1).heap[b]? = some (.cells #[u0, u1, v2, v3, v4, v5, v6, v7, v8] t (0, 0)) := setOf h0 1 u1
  clear h0
  have h2 : (((w.setCell ⟨b, 0, none⟩ u0).setCell ⟨b, 1, none⟩ u1).setCell ⟨b, 2, none⟩ u2).heap[b]? = some (.cells #[u0, u1, u2, v3, v4, v5, v6, v7, v8] t (0, 0)) := setOf h1 2 u2
  clear h1
  have h3 : ((((w.setCell ⟨b, 0, none⟩ u0).setCell ⟨b, 1, none⟩ u1).setCell ⟨b, 2, none⟩ u2).setCell ⟨b, 3, none⟩ u3).heap[b]? = some (.cells #[u0, u1, u2, u3, v4, v5, v6, v7, v8] t (0, 0)) := setOf h2 3 u3
  clear h2
  have h4 : (((((w.setCell ⟨b, 0, none⟩ u0).setCell ⟨b, 1, none⟩ u1).setCell ⟨b, 2, none⟩ u2).setCell ⟨b, 3, none⟩ u3).setCell ⟨b, 4, none⟩ u4).heap[b]? = some (.cells #[u0, u1, u2, u3, u4, v5, v6, v7, v8] t (0, 0)) := setOf h3 4 u4
  clear h3
  have h5 : ((((((w.setCell ⟨b, 0, none⟩ u0).setCell ⟨b, 1, none⟩ u1).setCell ⟨b, 2, none⟩ u2).setCell ⟨b, 3, none⟩ u3).setCell ⟨b, 4, none⟩ u4).setCell ⟨b, 5, none⟩ u5).heap[b]? = some (.cells #[u0, u1, u2, u3, u4, u5, v6, v7, v8] t (0, 0)) := setOf h4 5 u5
  clear h4
  have h6 : (((((((w.setCell ⟨b, 0, none⟩ u0).setCell ⟨b, 1, none⟩ u1).setCell ⟨b, 2, none⟩ u2).setCell ⟨b, 3, none⟩ u3).setCell ⟨b, 4, none⟩ u4).setCell ⟨b, 5, none⟩ u5).setCell ⟨b, 6, none⟩ u6).heap[b]? = some (.cells #[u0, u1, u2, u3, u4, u5, u6, v7, v8] t (0, 0)) := setOf h5 6 u6
  clear h5
  have h7 : ((((((((w.setCell ⟨b, 0, none⟩ u0).setCell ⟨b, 1, none⟩ u1).setCell ⟨b, 2, none⟩ u2).setCell ⟨b, 3, none⟩ u3).setCell ⟨b, 4, none⟩ u4).setCell ⟨b, 5, none⟩ u5).setCell ⟨b, 6, none⟩ u6).setCell ⟨b, 7, none⟩ u7).heap[b]? = some (.cells #[u0, u1, u2, u3, u4, u5, u6, u7, v8] t (0, 0)) := setOf h6 7 u7
  clear h6
  have h8 : (((((((((w.setCell ⟨b, 0, none⟩ u0).setCell ⟨b, 1, none⟩ u1).setCell ⟨b, 2, none⟩ u2).setCell ⟨b, 3, none⟩ u3).setCell ⟨b, 4, none⟩ u4).setCell ⟨b, 5, none⟩ u5).setCell ⟨b, 6, none⟩ u6).setCell ⟨b, 7, none⟩ u7).setCell ⟨b, 8, none⟩ u8).heap[b]? = some (.cells #[u0, u1, u2, u3, u4, u5, u6, u7, u8] t (0, 0)) := setOf h7 8 u8
  clear h7
  exact h8
theorem RB.set {w : World} {b : Nat} {q k q' k' : Int} {c c' : PP} (h : RB w b q k c) : RB (set9 w b q' k' c') b q' k' c' := set9_of _ _ _ _ _ _ _ _ _ _ _ _ _ _ _ _ _ _ h
theorem set9_only (w : World) (b : Nat) (q k : Int) (c : PP) : Only w (set9 w b q k c) b := nine (Only.refl w b) _ _ _ _ _ _ _ _ _
theorem mid_new {wr w2 : World} {p : Nat} {q k : Int} {c' : PP} (h : Pc w2 p c') (o : Only wr.drew w2 p) :
    Mid wr (w2.alloc (.cells #[.int .i64 q, .int .i64 c'.tr, .int .i64 k, .int .i64 c'.ast, .bool c'.ac, .int .i64 c'.si, .int .i64 c'.tot, .int .i64 c'.de, .int .i64 c'.cy] 40)) p q k c' (.pointer (some ⟨w2.heap.size, 0, none⟩)) :=
  ⟨_, rfl, h.below ((Below.refl _ _).alloc (Nat.le_refl _) _) (ltOf h), RB.new _ _ _ _, o.undrew.alloc _, o.size⟩
theorem mid_old {wr w2 : World} {p : Nat} {q k : Int} {c' : PP} (h : Pc w2 p c') (o : Only (wr.alloc (.cells #[.int .i64 0, .int .i64 0, .int .i64 0, .int .i64 0, .bool false, .int .i64 0, .int .i64 0, .int .i64 0, .int .i64 0] 40)).drew w2 p) (hp : wr.heap.size ≠ p) :
    Mid wr (set9 w2 wr.heap.size q k c') p q k c' (.pointer (some ⟨wr.heap.size, 0, none⟩)) := by
  have z : RB (World.drew (wr.alloc (.cells #[.int .i64 0, .int .i64 0, .int .i64 0, .int .i64 0, .bool false, .int .i64 0, .int .i64 0, .int .i64 0, .int .i64 0] 40))) wr.heap.size 0 0 Z0 := RB.new wr 0 0 Z0
  have n := set9_only w2 wr.heap.size q k c'
  exact ⟨_, rfl, h.only n hp.symm, (z.only o hp).set, o.unalloc.then_below (n.below (B := wr.heap.size) (Nat.le_refl _) o.unalloc.size) (Nat.le_refl _), Nat.le_refl _⟩
/-- the act is done by both -/
theorem Pair.next {w0 wr wx w3 : World} {p bq : Nat} {q k : Int} {c c' : PP} (T : Pair w0 wr p bq q k c) (h : Pc wx p c') (o : Only wr wx p) (g : c'.Good) (b3 : Below wx.heap.size wx w3) :
    Pair w0 (set9 w3 bq q k c') p bq q k c' ∧ Only2 wr (set9 w3 bq q k c') p bq := by
  have n := set9_only w3 bq q k c'
  have h3 := h.below b3 (ltOf h)
  have hq3 := (T.hq.only o (Ne.symm T.ne)).below b3 (Nat.lt_of_lt_of_le (ltOf T.hq) o.size)
  have bx := T.bel.trans (o.below T.lp T.bel.size)
  have b4 := bx.trans (b3.mono bx.size)
  refine ⟨⟨h3.only n T.ne, hq3.set, g, b4.trans (n.below T.lq b4.size), T.ne, T.lp, T.lq⟩, n.os.trans (b3.os.trans o.os), n.tape.trans (b3.tape.trans o.tape), n.output.trans (b3.output.trans o.output), Nat.le_trans (Nat.le_trans o.size b3.size) n.size, fun i hi h1 h2 => ?_⟩
  exact (n.block i (Nat.lt_of_lt_of_le hi (Nat.le_trans o.size b3.size)) h2).trans ((b3.block i (Nat.lt_of_lt_of_le hi o.size)).trans (o.block i hi h1))
theorem Pair.keep {w0 wr wx : World} {p bq x y : Nat} {q k : Int} {c : PP} (T : Pair w0 wr p bq q k c) (o : Only2 wr wx x y) (hb : Below w0.heap.size w0 wx) (h1 : p ≠ x) (h2 : p ≠ y) (h3 : bq ≠ x) (h4 : bq ≠ y) : Pair w0 wx p bq q k c :=
  ⟨(o.block p (ltOf T.hp) h1 h2).trans T.hp, (o.block bq (ltOf T.hq) h3 h4).trans T.hq, T.good, hb, T.ne, T.lp, T.lq⟩

/-- two pairs, apart -/
structure Four (w0 wr : World) (p bq o br : Nat) (q k : Int) (c d : PP) : Prop where
  a : Pair w0 wr p bq q k c
  b : Pair w0 wr o br q k d
  n1 : p ≠ o
  n2 : p ≠ br
  n3 : bq ≠ o
  n4 : bq ≠ br
theorem Four.next {w0 wr wx : World} {p bq o br : Nat} {q k : Int} {c d d' : PP} (T : Four w0 wr p bq o br q k c d) (h : Pc wx o d') (m : Only wr wx o) (g : d'.Good) : Four w0 (set9 wx br q k d') p bq o br q k c d' := by
  obtain ⟨P, O⟩ := T.b.next h m g (Below.refl _ _)
  exact ⟨T.a.keep O P.bel T.n1 T.n2 T.n3 T.n4, P, T.n1, T.n2, T.n3, T.n4⟩
theorem Four.start {w0 wr w4 : World} {p bq o : Nat} {q k : Int} {c : PP} (T : Pair w0 wr p bq q k c) (h : Pc w4 o c) (b4 : Below wr.heap.size wr w4) (lo : wr.heap.size ≤ o) :
    Four w0 (w4.alloc (.cells #[.int .i64 q, .int .i64 c.tr, .int .i64 k, .int .i64 c.ast, .bool c.ac, .int .i64 c.si, .int .i64 c.tot, .int .i64 c.de, .int .i64 c.cy] 40)) p bq o w4.heap.size q k c c := by
  have B4 := T.bel.trans (b4.mono T.bel.size)
  have B5 := B4.alloc B4.size (.cells #[.int .i64 q, .int .i64 c.tr, .int .i64 k, .int .i64 c.ast, .bool c.ac, .int .i64 c.si, .int .i64 c.tot, .int .i64 c.de, .int .i64 c.cy] 40)
  have s1 := ltOf T.hp
  have s2 := ltOf T.hq
  have s3 := b4.size
  have s4 := ltOf h
  have s5 := T.bel.size
  have al : Below w4.heap.size w4 (w4.alloc (.cells #[.int .i64 q, .int .i64 c.tr, .int .i64 k, .int .i64 c.ast, .bool c.ac, .int .i64 c.si, .int .i64 c.tot, .int .i64 c.de, .int .i64 c.cy] 40)) := (Below.refl _ _).alloc (Nat.le_refl _) _
  exact ⟨⟨(T.hp.below b4 s1).below al (by omega), (T.hq.below b4 s2).below al (by omega), T.good, B5, T.ne, T.lp, T.lq⟩, ⟨h.below al s4, RB.new _ _ _ _, T.good, B5, by omega, by omega, by omega⟩, by omega, by omega, by omega, by omega⟩

set_option maxRecDepth 100000 in
set_option maxHeartbeats 8000000 in
theorem plays_in (w : World) (q t k a : Int) (A : Option Addr) (len cap : Nat) (what slot : Nat → Int) (hf : Fit t a) (hA : Acts w A len what slot) :
    Calls Try.prog 5 #[TV q t k a, .slice A len cap] w fun e w' => e = .returned (.bool true) ∧ Below w.heap.size w w' := by
  have n0 := fun w => pNew_in w q t k a hf
  have r0 := fun w => rNew_in w q t k a hf
  have aw := fun w => awake_any w
  have b0 : Below w.heap.size w (w.alloc (.cells #[.int .i64 q, .int .i64 t, .int .i64 k, .int .i64 a] 23)) := (Below.refl _ _).alloc (Nat.le_refl _) _
  have sz : (w.alloc (.cells #[.int .i64 q, .int .i64 t, .int .i64 k, .int .i64 a] 23)).heap.size = w.heap.size + 1 := by simp
  have TB0 := Lib.hid (TB.new w q t k a)
  have B0 := Lib.hid b0
  have SZ := Lib.hid sz
  have G0 := Lib.hid (new0_good hf)
  clear b0 hf sz
  unfold TV at n0 r0 ⊢
  unfold RV at r0
  go_enter Try.func5, Try.ntmps5
  go_wp2_with fail
  refine (n0 _).mono ?_
  rintro e w1 ⟨p, rfl, h1, b1, hp⟩
  obtain ⟨d0, d1, d2, d3⟩ := (TB0.out.below b1 (ltOf TB0.out)).cells
  have H1 := Lib.hid h1
  have B1 := Lib.hid (B0.out.trans (b1.mono (B0.out.size)))
  have LP := Lib.hid hp
  clear b1 h1 hp B0
  go_wp2_with fail
  refine (r0 _).mono ?_
  rintro e w2 ⟨rfl, b2⟩
  clear d0 d1 d2 d3 TB0
  generalize hc0 : new0 t a = c0 at *
  have P0 : Pair w (w2.alloc (.cells #[.int .i64 q, .int .i64 c0.tr, .int .i64 k, .int .i64 c0.ast, .bool c0.ac, .int .i64 c0.si, .int .i64 c0.tot, .int .i64 c0.de, .int .i64 c0.cy] 40)) p w2.heap.size q k c0 := by
    have s1 := LP.out
    rw [SZ.out] at s1
    have s2 := ltOf H1.out
    have s3 := b2.size
    have s4 := B1.out.size
    have B2 := B1.out.trans (b2.mono B1.out.size)
    exact ⟨(H1.out.below b2 s2).below ((Below.refl _ _).alloc (Nat.le_refl _) _) (by omega), RB.new _ _ _ _, G0.out, B2.alloc B2.size _, by omega, by omega, B2.size⟩
  go_upto_region 3 with fail
  generalize w2.alloc (.cells #[.int .i64 q, .int .i64 c0.tr, .int .i64 k, .int .i64 c0.ast, .bool c0.ac, .int .i64 c0.si, .int .i64 c0.tot, .int .i64 c0.de, .int .i64 c0.cy] 40) = w3 at P0 ⊢
  generalize w2.heap.size = bq at P0 ⊢
  have Q0 := Lib.hid P0
  have HA := Lib.hid hA
  clear hc0 b2 P0 n0 r0 H1 LP SZ G0 B1
  go_wp2_with fail
  go_loopw [9] (fun i wr => ∃ (j : Nat) (c : PP), j ≤ len ∧ j ≤ 100 ∧ i = .int .i64 j ∧ Pair w wr p bq q k c) (fun i _ => len - (intOf i).toNat)
  case atStart => exact ⟨0, _, by omega, by omega, rfl, Q0.out⟩
  case round =>
    obtain ⟨j, c, hj, hj4, rfl, T⟩ := hrel
    clear Q0
    have T2 := Lib.hid T
    clear T
    by_cases hlt : j < len ∧ j < 100
    · obtain ⟨hlt, hl40⟩ := hlt
      obtain ⟨hA1, hA2, hA3, hA4⟩ := hA
      obtain ⟨b, off, rfl, hbb, hc⟩ := hA4 (by omega)
      have c1 := (T2.out.bel.cell (p := ⟨b, off + j * 2, none⟩) hbb).trans (hc j hlt).1
      have c2 := (T2.out.bel.cell (p := ⟨b, off + j * 2 + 1, none⟩) hbb).trans (hc j hlt).2
      have hw0 := (hA1 j).1
      have hw1 := (hA1 j).2
      have hs := hA2 j
      clear hc hA1 hA2 hA4
      generalize what j = wk at *
      generalize slot j = sk at *
      have dd := fun w h => does_any w p q k c wk sk h T2.out.good hw0 hw1 hs
      have GD := Lib.hid (dsC_good T2.out.good wk sk)
      unfold RV at dd
      generalize dsC c wk sk = c' at *
      go_upto_region 10 with fail
      go_cut [10, 11] (fun v10 v11 wx => v11 = .bool true ∧ Mid wr wx p q k c' v10)
      case first =>
        obtain ⟨x0, x1, x2, x3, x4, x5, x6, x7, x8⟩ := T2.out.hq.cells
        have lp := ltOf T2.out.hp
        have PA := Lib.hid (T2.out.hp.below ((Below.refl _ _).alloc (Nat.le_refl _) (.cells #[.int .i64 0, .int .i64 0, .int .i64 0, .int .i64 0, .bool false, .int .i64 0, .int .i64 0, .int .i64 0, .int .i64 0] 40)) lp)
        have ZA : Hid (RB (World.drew (wr.alloc (.cells #[.int .i64 0, .int .i64 0, .int .i64 0, .int .i64 0, .bool false, .int .i64 0, .int .i64 0, .int .i64 0, .int .i64 0] 40))) wr.heap.size 0 0 Z0) := Lib.hid (RB.new wr 0 0 Z0)
        have lz : wr.heap.size ≠ p := by omega
        have lb : b < wr.heap.size := by have := T2.out.bel.size; omega
        have lq := ltOf T2.out.hq
        have hj0 : (0 : Int) ≤ j := by omega
        have hj1 : (j : Int) < len := by omega
        go_region_with (go_at_call 17; first | (refine (dd _ (by exact T2.out.hp)).mono ?_; rintro e w2 ⟨rfl, h2, o2⟩; have N2 := Lib.hid h2; have P2 := Lib.hid o2; clear h2 o2) | (refine (dd _ (by exact PA.out)).mono ?_; rintro e w2 ⟨rfl, h2, o2⟩; have N2 := Lib.hid h2; have P2 := Lib.hid o2; clear h2 o2; obtain ⟨y0, y1, y2, y3, y4, y5, y6, y7, y8⟩ := (ZA.out.only P2.out lz).cells; have f7 := fun i => fzR (ZA.out.only P2.out lz) i))
        all_goals (go_wp2_with fail; go_meet; refine ⟨rfl, ?_⟩; first | (with_reducible exact mid_new N2.out P2.out) | (with_reducible exact mid_old N2.out P2.out lz))
      case rest =>
        obtain ⟨rfl, b10, rfl, m1, m2, m3, m4⟩ := hcut
        have sm := same_any _ p q k c' m1 GD.out
        unfold RV at sm
        obtain ⟨x0, x1, x2, x3, x4, x5, x6, x7, x8⟩ := m2.cells
        have M1 := Lib.hid m1
        have M2 := Lib.hid m2
        have M3 := Lib.hid m3
        clear m1 m2 m3 c1 c2 dd
        go_wp2_with fail
        refine sm.mono ?_
        rintro e w4 ⟨rfl, b4⟩
        clear x0 x1 x2 x3 x4 x5 x6 x7 x8 sm
        obtain ⟨x0, x1, x2, x3, x4, x5, x6, x7, x8⟩ := (M2.out.below b4 (ltOf M2.out)).cells
        have q4 := (T2.out.hq.only M3.out (Ne.symm T2.out.ne)).below b4 (Nat.lt_of_lt_of_le (ltOf T2.out.hq) M3.out.size)
        obtain ⟨y0, y1, y2, y3, y4, y5, y6, y7, y8⟩ := q4.cells
        have f7 := fun i => fzR q4 i
        have T3 := Lib.hid (T2.out.next M1.out M3.out GD.out b4).1
        clear q4 b4
        go_wp2_with fail
        go_roundw
        case rel => exact ⟨j + 1, _, by omega, by omega, by go_num, T3.out⟩
        case measure => simp [intOf]; omega
    · have hlt' : len ≤ j ∨ (j < len ∧ 100 ≤ j) := by omega
      clear hlt hA
      have cp := pCopy_any _ p c T2.out.hp T2.out.good
      rcases hlt' with hl | ⟨hl, hl'⟩
      all_goals
        go_wp2_with fail
        refine cp.mono ?_
        rintro e w4 ⟨o, rfl, h4, b4, lo⟩
        obtain ⟨x0, x1, x2, x3, x4, x5, x6, x7, x8⟩ := (T2.out.hq.below b4 (ltOf T2.out.hq)).cells
        have F0 := Four.start T2.out h4 b4 lo
        clear cp h4 b4 lo
        go_upto_region 16 with fail
        generalize w4.alloc (.cells #[.int .i64 q, .int .i64 c.tr, .int .i64 k, .int .i64 c.ast, .bool c.ac, .int .i64 c.si, .int .i64 c.tot, .int .i64 c.de, .int .i64 c.cy] 40) = w5 at F0 ⊢
        generalize w4.heap.size = br at F0 ⊢
        have F1 := Lib.hid F0
        clear x0 x1 x2 x3 x4 x5 x6 x7 x8 F0 T2
        go_wp2_with fail
        go_loopw [14] (fun i wz => ∃ (i2 : Nat) (d : PP), i2 ≤ len ∧ i2 ≤ 20 ∧ i = .int .i64 i2 ∧ Four w wz p bq o br q k c d) (fun i _ => len - (intOf i).toNat)
        case atStart => exact ⟨0, _, by omega, by omega, rfl, F1.out⟩
        case round =>
          obtain ⟨i2, d, hi, hi4, rfl, T⟩ := hrel
          clear F1
          have F2 := Lib.hid T
          clear T
          by_cases hlt : i2 < len ∧ i2 < 20
          · obtain ⟨hlt, hl20⟩ := hlt
            obtain ⟨hA1, hA2, hA3, hA4⟩ := HA.out
            obtain ⟨b, off, rfl, hbb, hc⟩ := hA4 (by omega)
            have c1 := (F2.out.a.bel.cell (p := ⟨b, off + i2 * 2, none⟩) hbb).trans (hc i2 hlt).1
            have c2 := (F2.out.a.bel.cell (p := ⟨b, off + i2 * 2 + 1, none⟩) hbb).trans (hc i2 hlt).2
            have hw0 := (hA1 i2).1
            have hw1 := (hA1 i2).2
            have hs := hA2 i2
            clear hc hA1 hA2 hA4
            generalize what i2 = wk at *
            generalize slot i2 = sk at *
            have dd := fun w h => does_any w o q k d wk sk h F2.out.b.good hw0 hw1 hs
            have GD := Lib.hid (dsC_good F2.out.b.good wk sk)
            unfold RV at dd
            generalize dsC d wk sk = d' at *
            go_upto_region 19 with fail
            go_cut [15, 16] (fun v10 v11 wx => v11 = .bool true ∧ Mid wr wx o q k d' v10)
            case first =>
              obtain ⟨x0, x1, x2, x3, x4, x5, x6, x7, x8⟩ := F2.out.b.hq.cells
              have lp := ltOf F2.out.b.hp
              have PA := Lib.hid (F2.out.b.hp.below ((Below.refl _ _).alloc (Nat.le_refl _) (.cells #[.int .i64 0, .int .i64 0, .int .i64 0, .int .i64 0, .bool false, .int .i64 0, .int .i64 0, .int .i64 0, .int .i64 0] 40)) lp)
              have ZA : Hid (RB (World.drew (wr.alloc (.cells #[.int .i64 0, .int .i64 0, .int .i64 0, .int .i64 0, .bool false, .int .i64 0, .int .i64 0, .int .i64 0, .int .i64 0] 40))) wr.heap.size 0 0 Z0) := Lib.hid (RB.new wr 0 0 Z0)
              have lz : wr.heap.size ≠ o := by omega
              have lb : b < wr.heap.size := by have := F2.out.b.bel.size; omega
              have lq := ltOf F2.out.b.hq
              have hj0 : (0 : Int) ≤ i2 := by omega
              have hj1 : (i2 : Int) < len := by omega
              go_region_with (go_at_call 17; first | (refine (dd _ (by exact F2.out.b.hp)).mono ?_; rintro e w2 ⟨rfl, h2, o2⟩; have N2 := Lib.hid h2; have P2 := Lib.hid o2; clear h2 o2) | (refine (dd _ (by exact PA.out)).mono ?_; rintro e w2 ⟨rfl, h2, o2⟩; have N2 := Lib.hid h2; have P2 := Lib.hid o2; clear h2 o2; obtain ⟨y0, y1, y2, y3, y4, y5, y6, y7, y8⟩ := (ZA.out.only P2.out lz).cells; have f7 := fun i => fzR (ZA.out.only P2.out lz) i))
              all_goals (go_wp2_with fail; go_meet; refine ⟨rfl, ?_⟩; first | (with_reducible exact mid_new N2.out P2.out) | (with_reducible exact mid_old N2.out P2.out lz))
            case rest =>
              obtain ⟨rfl, b10, rfl, m1, m2, m3, m4⟩ := hcut
              obtain ⟨x0, x1, x2, x3, x4, x5, x6, x7, x8⟩ := m2.cells
              have q4 := F2.out.b.hq.only m3 (Ne.symm F2.out.b.ne)
              obtain ⟨y0, y1, y2, y3, y4, y5, y6, y7, y8⟩ := q4.cells
              have f7 := fun i => fzR q4 i
              have F3 := Lib.hid (F2.out.next m1 m3 GD.out)
              clear q4 m1 m2 m3 c1 c2 dd
              go_wp2_with fail
              go_roundw
              case rel => exact ⟨i2 + 1, _, by omega, by omega, by go_num, F3.out⟩
              case measure => simp [intOf]; omega
          · have hlt' : len ≤ i2 ∨ (i2 < len ∧ 20 ≤ i2) := by omega
            clear hlt HA
            have s1 := same_any _ p q k c F2.out.a.hp F2.out.a.good
            have s2 := fun w h => same_any w o q k d h F2.out.b.good
            unfold RV at s1 s2
            obtain ⟨x0, x1, x2, x3, x4, x5, x6, x7, x8⟩ := F2.out.a.hq.cells
            rcases hlt' with hl2 | ⟨hl2, hl2'⟩
            · first
              | (exfalso; omega)
              | (go_wp2_with fail
                 refine s1.mono ?_
                 rintro e w6 ⟨rfl, b6⟩
                 have g6 := F2.out.b.hp.below b6 (ltOf F2.out.b.hp)
                 clear x0 x1 x2 x3 x4 x5 x6 x7 x8
                 obtain ⟨x0, x1, x2, x3, x4, x5, x6, x7, x8⟩ := (F2.out.b.hq.below b6 (ltOf F2.out.b.hq)).cells
                 have G6 := Lib.hid g6
                 have B6 := Lib.hid (F2.out.a.bel.trans (b6.mono F2.out.a.bel.size))
                 clear g6 b6
                 go_wp2_with fail
                 refine (s2 _ G6.out).mono ?_
                 rintro e w7 ⟨rfl, b7⟩
                 have B7 := Lib.hid (B6.out.trans (b7.mono B6.out.size))
                 clear x0 x1 x2 x3 x4 x5 x6 x7 x8 b7
                 go_wp2_with fail
                 refine (aw _).mono ?_
                 rintro e w8 ⟨rfl, b8⟩
                 go_wp2_with fail
                 go_ret
                 exact ⟨rfl, B7.out.trans (b8.mono B7.out.size)⟩)
            · go_wp2_with fail
              refine s1.mono ?_
              rintro e w6 ⟨rfl, b6⟩
              have g6 := F2.out.b.hp.below b6 (ltOf F2.out.b.hp)
              clear x0 x1 x2 x3 x4 x5 x6 x7 x8
              obtain ⟨x0, x1, x2, x3, x4, x5, x6, x7, x8⟩ := (F2.out.b.hq.below b6 (ltOf F2.out.b.hq)).cells
              have G6 := Lib.hid g6
              have B6 := Lib.hid (F2.out.a.bel.trans (b6.mono F2.out.a.bel.size))
              clear g6 b6
              go_wp2_with fail
              refine (s2 _ G6.out).mono ?_
              rintro e w7 ⟨rfl, b7⟩
              have B7 := Lib.hid (B6.out.trans (b7.mono B6.out.size))
              clear x0 x1 x2 x3 x4 x5 x6 x7 x8 b7
              go_wp2_with fail
              refine (aw _).mono ?_
              rintro e w8 ⟨rfl, b8⟩
              go_wp2_with fail
              go_ret
              exact ⟨rfl, B7.out.trans (b8.mono B7.out.size)⟩
theorem plays_walk (w : World) (q t k a : Int) (A : Option Addr) (len cap : Nat) (what slot : Nat → Int) (hA : Acts w A len what slot) :
    Calls Try.prog 5 #[TV q t k a, .slice A len cap] w fun e w' => e = .returned (.bool true) ∧ Below w.heap.size w w' := by
  by_cases hf : Fit t a
  · exact plays_in w q t k a A len cap what slot hf hA
  · exact plays_out w q t k a A len cap hf
end Go.Proofs.Ytembhdlhhhdpiaa
