/- The walk of PaceTurns: what the two pacers have in common. -/
import Derived.Test.YtembhdlhhhdpiaaPaceDoes
namespace Go.Proofs.Ytembhdlhhhdpiaa
open Go.RowKit SatPlain

theorem clip_mono {a b : Int} (h : a ≤ b) : clip a ≤ clip b := by unfold clip; split <;> split <;> (try split) <;> (try split) <;> omega
/-- two pacers that are done the same to, but for what is paid -/
structure Alike (t : Int) (c d : PP) : Prop where
  gc : c.Good
  gd : d.Good
  ac : d.ac = c.ac
  si : d.si = c.si
  tc : c.tr = t
  td : d.tr = t
  sa : d.ast = c.ast
  de : c.de ≤ d.de
theorem Alike.turn {t : Int} {c d : PP} (h : Alike t c d) (b : Bool) : Alike t (tnC c b) (tnC d b) ∧ tnE d b = tnE c b := by
  refine ⟨⟨tnC_good h.gc b, tnC_good h.gd b, ?_, ?_, ?_, ?_, ?_, ?_⟩, by unfold tnE; rw [h.ac]⟩
  all_goals unfold tnC
  all_goals (try rw [h.ac])
  all_goals split
  all_goals first | exact h.ac | exact h.si | exact h.tc | exact h.td | exact h.sa | exact h.de | rfl | exact Int.le_refl _
theorem Alike.pay {t : Int} {c d : PP} (h : Alike t c d) (n : Int) : Alike t (payC c n) d := by
  refine ⟨payC_good h.gc n, h.gd, h.ac, h.si, h.tc, h.td, h.sa, ?_⟩
  have e : (payC c n).de = clip (c.de - (if n < 0 then 0 else n)) := rfl
  rw [e]
  have h1 : clip (c.de - (if n < 0 then 0 else n)) ≤ clip c.de := clip_mono (by split <;> omega)
  rw [clip_of h.gc.de.1 h.gc.de.2] at h1
  have := h.de
  omega
theorem Alike.ask {t : Int} {c d : PP} (h : Alike t c d) (n : Int) : Alike t (askC c n) (askC d n) ∧ askD d n = askD c n := by
  have e : ∀ c : PP, ¬ n < 1 → (askC c n).si = (if clip (c.si + n) < c.tr then clip (c.si + n) else 0) ∧ (askC c n).ac = c.ac ∧ (askC c n).tr = c.tr ∧ (askC c n).ast = c.ast ∧ (askC c n).de = deA c n := by
    intro c hn; unfold askC; rw [if_neg hn]; exact ⟨rfl, rfl, rfl, rfl, rfl⟩
  by_cases hn : n < 1
  · have e1 : ∀ c : PP, askC c n = c := fun c => by unfold askC; rw [if_pos hn]
    have e2 : ∀ c : PP, askD c n = 0 := fun c => by unfold askD; rw [if_pos hn]
    rw [e1, e1, e2, e2]; exact ⟨h, rfl⟩
  · obtain ⟨c1, c2, c3, c4, c5⟩ := e c hn
    obtain ⟨d1, d2, d3, d4, d5⟩ := e d hn
    refine ⟨⟨askC_good h.gc n, askC_good h.gd n, by rw [c2, d2, h.ac], by rw [c1, d1, h.si, h.tc, h.td], by rw [c3, h.tc], by rw [d3, h.td], by rw [c4, d4, h.sa], ?_⟩, ?_⟩
    · rw [c5, d5]
      unfold deA
      rw [h.ac, h.sa]
      split
      · exact clip_mono (by have := h.de; omega)
      · exact h.de
    · unfold askD; rw [if_neg hn, if_neg hn, h.si, h.tc, h.td, h.ac]
/-- the two in memory, the tenant's variable -/
structure Duo (w0 wr : World) (p o tb : Nat) (q t k a : Int) (c d : PP) : Prop where
  hp : Pc wr p c
  ho : Pc wr o d
  ht : TB wr tb q t k a
  al : Alike t c d
  bel : Below w0.heap.size w0 wr
  ne : p ≠ o
  np : tb ≠ p
  no : tb ≠ o
  lp : w0.heap.size ≤ p
  lo : w0.heap.size ≤ o
theorem Duo.grow {w0 wr wx : World} {p o tb : Nat} {q t k a : Int} {c d : PP} (T : Duo w0 wr p o tb q t k a c d) (b : Below wr.heap.size wr wx) : Duo w0 wx p o tb q t k a c d :=
  ⟨T.hp.below b (ltOf T.hp), T.ho.below b (ltOf T.ho), T.ht.below b (ltOf T.ht), T.al, T.bel.trans (b.mono T.bel.size), T.ne, T.np, T.no, T.lp, T.lo⟩
theorem Duo.drewN {w0 wr : World} {p o tb : Nat} {q t k a : Int} {c d : PP} (T : Duo w0 wr p o tb q t k a c d) (n : Nat) : Duo w0 (wr.drewN n) p o tb q t k a c d :=
  ⟨T.hp, T.ho, T.ht, T.al, ⟨T.bel.os, T.bel.tape, T.bel.output, T.bel.size, T.bel.block⟩, T.ne, T.np, T.no, T.lp, T.lo⟩
theorem Duo.one {w0 wr wx : World} {p o tb : Nat} {q t k a : Int} {c c' d : PP} (T : Duo w0 wr p o tb q t k a c d) (h : Pc wx p c') (m : Only wr wx p) (al : Alike t c' d) : Duo w0 wx p o tb q t k a c' d :=
  ⟨h, T.ho.only m T.ne.symm, T.ht.only m T.np, al, T.bel.trans (m.below T.lp T.bel.size), T.ne, T.np, T.no, T.lp, T.lo⟩
theorem Duo.both {w0 wr wx wy : World} {p o tb : Nat} {q t k a : Int} {c c' d d' : PP} (T : Duo w0 wr p o tb q t k a c d) (h : Pc wx p c') (m : Only wr wx p) (h2 : Pc wy o d') (m2 : Only wx wy o) (al : Alike t c' d') : Duo w0 wy p o tb q t k a c' d' :=
  have B1 := T.bel.trans (m.below T.lp T.bel.size)
  ⟨h.only m2 T.ne, h2, (T.ht.only m T.np).only m2 T.no, al, B1.trans (m2.below T.lo B1.size), T.ne, T.np, T.no, T.lp, T.lo⟩
theorem pEnd_none (w : World) (p : Nat) (c : PP) (h : Pc w p c) (hz : c.tr = 0) : Calls Try.prog 10 #[.pointer (some ⟨p, 0, none⟩)] w fun e w' => e = .returned (.int .i64 1) ∧ Below w.heap.size w w' := by
  have h' : Pc (w.alloc (.cells #[.pointer (some ⟨p, 0, none⟩)] 27)) p c := h.below ((Below.refl _ _).alloc (Nat.le_refl _) _) (ltOf h)
  have t := fun f => pTurn_none (w.alloc (.cells #[.pointer (some ⟨p, 0, none⟩)] 27)) (.pointer (some ⟨p, 0, none⟩)) f false (none_zero _ p c h' hz)
  clear h h' hz
  go_enter Try.func10, Try.ntmps10
  go_wp2_with fail
  refine (t _).mono ?_
  rintro e w' ⟨rfl, rfl⟩
  go_wp2_with fail
  go_ret
  exact ⟨rfl, (Below.refl _ _).alloc (Nat.le_refl _) _⟩
end Go.Proofs.Ytembhdlhhhdpiaa
