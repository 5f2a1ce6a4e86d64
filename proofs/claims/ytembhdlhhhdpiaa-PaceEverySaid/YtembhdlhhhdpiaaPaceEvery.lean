/- The walk of PaceEvery. -/
import Derived.Test.YtembhdlhhhdpiaaPaceActs
namespace Go.Proofs.Ytembhdlhhhdpiaa
open Go.RowKit SatPlain

theorem every_out (w : World) (q t k a many : Int) (ends : Bool) (hf : ¬ Fit t a) :
    Calls Try.prog 4 #[TV q t k a, .int .u16 many, .bool ends] w fun e w' => e = .returned (.bool true) ∧ Below w.heap.size w w' := by
  have n0 := fun w => pNew_out w q t k a hf
  have aw := fun w => awake_any w
  have b0 : Below w.heap.size w (w.alloc (.cells #[.int .i64 q, .int .i64 t, .int .i64 k, .int .i64 a] 23)) := (Below.refl _ _).alloc (Nat.le_refl _) _
  have B0 := Lib.hid b0
  clear b0 hf
  unfold TV at n0 ⊢
  go_enter Try.func4, Try.ntmps4
  go_wp2_with fail
  refine (n0 _).mono ?_
  rintro e w1 ⟨rfl, b1⟩
  have B1 := Lib.hid (B0.out.trans (b1.mono (B0.out.size)))
  clear b1 B0
  go_wp2_with fail
  refine (aw _).mono ?_
  rintro e w3 ⟨rfl, b3⟩
  go_wp2_with fail
  go_ret
  exact ⟨rfl, B1.out.trans (b3.mono B1.out.size)⟩

/-- the counts behind so many words -/
structure At (c : PP) (t : Int) (i : Nat) : Prop where
  good : c.Good
  tr : c.tr = t
  si : c.si = ((i % t.toNat : Nat) : Int)
  tot : c.tot = i
theorem At.step {c : PP} {t : Int} {i : Nat} (h : At c t i) (ht : t ≤ 300) (hi : i < 1000) :
    At (askC c 1) t (i + 1) ∧ ((askD c 1 = 0 ∧ (i + 1) % t.toNat ≠ 0) ∨ (askD c 1 = 2 ∧ (i + 1) % t.toNat = 0 ∧ c.ac = true ∧ (askC c 1).ac = true) ∨ (askD c 1 = 1 ∧ (i + 1) % t.toNat = 0 ∧ c.ac = false ∧ (askC c 1).ac = false)) := by
  have t0 := h.good.tr0
  have s0 := h.good.si0
  have s1 := h.good.si1
  have e0 := h.tr
  have e1 := h.si
  have cs : clip (c.si + 1) = c.si + 1 := clip_of (by omega) (by omega)
  have ct : clip (c.tot + 1) = c.tot + 1 := clip_of (by have := h.tot; omega) (by have := h.tot; omega)
  have hg := askC_good h.good 1
  have hm : (i + 1) % t.toNat = if i % t.toNat + 1 = t.toNat then 0 else i % t.toNat + 1 := by
    have hlt : i % t.toNat < t.toNat := Nat.mod_lt _ (by omega)
    rw [Nat.add_mod]
    by_cases h1 : t.toNat = 1
    · rw [h1]; simp [Nat.mod_one]
    rw [Nat.mod_eq_of_lt (show 1 < t.toNat by omega)]
    split
    · rename_i h2; rw [h2, Nat.mod_self]
    · exact Nat.mod_eq_of_lt (by omega)
  by_cases hs : clip (c.si + 1) < c.tr
  · obtain ⟨d, e⟩ := ask_lo (by decide) hs
    rw [if_neg (by omega)] at hm
    refine ⟨⟨hg, ?_, ?_, ?_⟩, .inl ⟨d, by omega⟩⟩
    · rw [e]; exact e0
    · rw [e, hm]; show clip (c.si + 1) = _; omega
    · rw [e]; show clip (c.tot + 1) = _; have := h.tot; omega
  · rw [if_pos (by omega)] at hm
    cases ha : c.ac
    · obtain ⟨d, e⟩ := ask_off (by decide) hs ha
      refine ⟨⟨hg, ?_, ?_, ?_⟩, .inr (.inr ⟨d, hm, rfl, ?_⟩)⟩
      · rw [e]; exact e0
      · rw [e, hm]; rfl
      · rw [e]; show clip (c.tot + 1) = _; have := h.tot; omega
      · rw [e]; exact ha
    · obtain ⟨d, e⟩ := ask_on (by decide) hs ha
      refine ⟨⟨hg, ?_, ?_, ?_⟩, .inr (.inl ⟨d, hm, rfl, ?_⟩)⟩
      · rw [e]; exact e0
      · rw [e, hm]; rfl
      · rw [e]; show clip (c.tot + 1) = _; have := h.tot; omega
      · rw [e]; exact ha
theorem At.turn {c : PP} {t : Int} {i : Nat} (h : At c t i) (hi : i % t.toNat = 0) (b : Bool) : At (tnC c b) t i := by
  refine ⟨tnC_good h.good b, ?_, ?_, ?_⟩
  · unfold tnC; split <;> exact h.tr
  · unfold tnC; split
    · exact h.si
    · rw [hi]; rfl
  · unfold tnC; split <;> exact h.tot

/-- the greater Trigger -/
theorem every_big (w : World) (q t k a many : Int) (ends : Bool) (hf : Fit t a) (hb : 300 < t) :
    Calls Try.prog 4 #[TV q t k a, .int .u16 many, .bool ends] w fun e w' => e = .returned (.bool true) ∧ Below w.heap.size w w' := by
  have n0 := fun w => pNew_in w q t k a hf
  have aw := fun w => awake_any w
  have b0 : Below w.heap.size w (w.alloc (.cells #[.int .i64 q, .int .i64 t, .int .i64 k, .int .i64 a] 23)) := (Below.refl _ _).alloc (Nat.le_refl _) _
  have TB0 := Lib.hid (TB.new w q t k a)
  have B0 := Lib.hid b0
  obtain ⟨f0, f1, f2, f3⟩ := hf
  clear b0
  unfold TV at n0 ⊢
  go_enter Try.func4, Try.ntmps4
  go_wp2_with fail
  refine (n0 _).mono ?_
  rintro e w1 ⟨p, rfl, h1, b1, hp⟩
  obtain ⟨d0, d1, d2, d3⟩ := (TB0.out.below b1 (ltOf TB0.out)).cells
  have B1 := Lib.hid (B0.out.trans (b1.mono (B0.out.size)))
  clear b1 B0 h1 hp
  go_wp2_with fail
  refine (aw _).mono ?_
  rintro e w3 ⟨rfl, b3⟩
  go_wp2_with fail
  go_ret
  exact ⟨rfl, B1.out.trans (b3.mono B1.out.size)⟩
/-- the state behind so many words -/
structure Kept (w0 wr : World) (p : Nat) (q t k a : Int) (c : PP) (j : Nat) : Prop where
  hp : Pc wr p c
  at' : At c t j
  tb : TB wr w0.heap.size q t k a
  bel : Below w0.heap.size w0 wr
  lp : w0.heap.size + 1 ≤ p
theorem Kept.next {w0 w1 w2 : World} {p j j' : Nat} {q t k a : Int} {c c' : PP} (K : Kept w0 w1 p q t k a c j) (h2 : Pc w2 p c') (o2 : Only w1 w2 p) (h : At c' t j') : Kept w0 w2 p q t k a c' j' :=
  ⟨h2, h, K.tb.only o2 (by have := K.lp; omega), K.bel.trans (o2.below (by have := K.lp; omega) K.bel.size), K.lp⟩
theorem Kept.drewN {w0 w1 : World} {p j : Nat} {q t k a : Int} {c : PP} (K : Kept w0 w1 p q t k a c j) (n : Nat) : Kept w0 (w1.drewN n) p q t k a c j := ⟨K.hp, K.at', K.tb, ⟨K.bel.os, K.bel.tape, K.bel.output, K.bel.size, K.bel.block⟩, K.lp⟩
theorem quiet_same {P : Program} {f : FuncId} {args : Array Value} {w : World} {n : Nat} {v : Value}
    (h : Calls P f args (w.drewN n) fun e w' => e = .returned v ∧ w.drewN n = w') : Calls P f args (w.drewN n) fun e w'' => e = .returned v ∧ ∃ m, w'' = w.drewN m :=
  h.mono fun _ _ ⟨he, hm⟩ => ⟨he, n, hm.symm⟩

set_option maxRecDepth 100000 in
set_option maxHeartbeats 8000000 in
theorem every_in (w : World) (q t k a many : Int) (n : Nat) (ends : Bool) (hf : Fit t a) (hb : t ≤ 300) (hm0 : 0 ≤ many) (hm1 : many ≤ 65535) (hn : many % 1001 = n) :
    Calls Try.prog 4 #[TV q t k a, .int .u16 many, .bool ends] w fun e w' => e = .returned (.bool true) ∧ Below w.heap.size w w' := by
  have n0 := fun w => pNew_in w q t k a hf
  have aw := fun w => awake_any w
  have b0 : Below w.heap.size w (w.alloc (.cells #[.int .i64 q, .int .i64 t, .int .i64 k, .int .i64 a] 23)) := (Below.refl _ _).alloc (Nat.le_refl _) _
  have sz : (w.alloc (.cells #[.int .i64 q, .int .i64 t, .int .i64 k, .int .i64 a] 23)).heap.size = w.heap.size + 1 := by simp
  have SZ := Lib.hid sz
  have TB0 := Lib.hid (TB.new w q t k a)
  have B0 := Lib.hid b0
  have G0 := Lib.hid (new0_good hf)
  have hn1 : n ≤ 1000 := by omega
  obtain ⟨f0, f1, f2, f3⟩ := hf
  clear b0 sz
  unfold TV at n0 ⊢
  go_enter Try.func4, Try.ntmps4
  go_wp2_with fail
  refine (n0 _).mono ?_
  rintro e w1 ⟨p, rfl, h1, b1, hp⟩
  have K0 : Kept w w1 p q t k a (new0 t a) 0 := ⟨h1, ⟨G0.out, rfl, by simp [new0], rfl⟩, TB0.out.below b1 (ltOf TB0.out), B0.out.trans (b1.mono B0.out.size), by rw [SZ.out] at hp; exact hp⟩
  obtain ⟨d0, d1, d2, d3⟩ := K0.tb.cells
  have K1 := Lib.hid K0
  clear b1 B0 h1 hp n0 K0 TB0 SZ G0
  go_wp2_with fail
  clear d0 d1 d2 d3
  go_loopw [9] (fun i wr => ∃ (j : Nat) (c : PP), j ≤ n ∧ i = .int .i64 (j + 1) ∧ Kept w wr p q t k a c j) (fun i _ => n + 1 - (intOf i).toNat)
  case atStart => exact ⟨0, _, by omega, rfl, K1.out⟩
  case round =>
    obtain ⟨j, c, hj, rfl, K⟩ := hrel
    clear K1
    have K2 := Lib.hid K
    clear K
    by_cases hlt : j < n
    · obtain ⟨A1, key⟩ := K2.out.at'.step hb (by omega)
      have r0 := pActive_any _ p c K2.out.hp K2.out.at'.good.tr0
      have r1 := pAsk_any _ p c 1 K2.out.hp K2.out.at'.good (by decide)
      have A2 := Lib.hid A1
      have hsi := A1.si
      clear A1
      have e1 : ((j : Int) + 1) % t = (((j + 1) % t.toNat : Nat) : Int) := by
        rw [Int.natCast_emod, show ((t.toNat : Nat) : Int) = t from by omega]; rfl
      have e2 : ((j : Int) + 1).tmod t = (((j + 1) % t.toNat : Nat) : Int) := by
        rw [Int.tmod_eq_emod_of_nonneg (by omega)]; exact e1
      rw [show askE 1 = 0 from rfl] at r1
      have M : Hid ((j + 1) % t.toNat = (j + 1) % t.toNat) := Lib.hid rfl
      rcases key with ⟨kd, km⟩ | ⟨kd, km, ka, kb⟩ | ⟨kd, km, ka, kb⟩
      · rw [kd] at r1
        have hm' : ((((j + 1) % t.toNat : Nat) : Int) == 0) = false := by rw [beq_eq_false_iff_ne]; omega
        clear M km
        generalize (((j + 1) % t.toNat : Nat) : Int) = mm at *
        generalize hac : c.ac = ac at *
        clear hac kd
        go_wp2_with fail
        refine r0.mono ?_
        rintro e w' ⟨rfl, rfl⟩
        go_wp2_with fail
        refine r1.mono ?_
        rintro e w2 ⟨rfl, h2, o2⟩
        have K3 := Lib.hid (K2.out.next h2 o2 A2.out)
        clear r0 r1 h2 o2 K2
        have s1 : Hid (∀ m, Calls Try.prog 12 #[.pointer (some ⟨p, 0, none⟩)] (w2.drewN m) fun e w' => e = .returned (.int .i64 mm) ∧ w2.drewN m = w') := fun m => by
          have := pSince_any _ p _ (K3.out.drewN m).hp K3.out.at'.good.tr0
          rw [hsi] at this
          exact this
        have d1 := K3.out.tb.cells.2.1
        go_wp2_with fail
        go_quiet (first | (go_at_call 12; exact quiet_same (s1.out _)))
        have K4 := Lib.hid (K3.out.drewN nq)
        clear s1 K3
        go_wp2_with fail
        go_roundw
        case rel => exact ⟨j + 1, _, by omega, by go_num, K4.out⟩
        case measure => simp [intOf]; omega
      · rw [kd] at r1
        rw [km] at hsi e1 e2
        have KM := Lib.hid km
        have b1 : tnE (askC c 1) false = 0 := by unfold tnE; rw [kb]; rfl
        have hsi' : (askC c 1).si = 0 := hsi
        rw [ka] at r0
        clear M km kd kb ka
        go_wp2_with fail
        refine r0.mono ?_
        rintro e w' ⟨rfl, rfl⟩
        go_wp2_with fail
        refine r1.mono ?_
        rintro e w2 ⟨rfl, h2, o2⟩
        have K3 := Lib.hid (K2.out.next h2 o2 A2.out)
        clear r0 r1 h2 o2 K2
        have s1 : Hid (∀ m, Calls Try.prog 12 #[.pointer (some ⟨p, 0, none⟩)] (w2.drewN m) fun e w' => e = .returned (.int .i64 (0 : Int)) ∧ w2.drewN m = w') := fun m => by
          have := pSince_any _ p _ (K3.out.drewN m).hp K3.out.at'.good.tr0
          rw [hsi'] at this
          exact this
        have d1 := K3.out.tb.cells.2.1
        go_wp2_with fail
        go_quiet (first | (go_at_call 12; exact quiet_same (s1.out _)))
        have K4 := Lib.hid (K3.out.drewN nq)
        clear s1 K3
        cases ends
        · go_wp2_with fail
          go_roundw
          case rel => exact ⟨j + 1, _, by omega, by go_num, K4.out⟩
          case measure => simp [intOf]; omega
        · have s2 := pEnd_any _ p _ K4.out.hp K4.out.at'.good
          rw [b1] at s2
          go_wp2_with fail
          refine s2.mono ?_
          rintro e w3 ⟨rfl, h3, o3⟩
          have K5 := Lib.hid (K4.out.next h3 o3 (K4.out.at'.turn KM.out false))
          clear h3 o3 s2 K4
          go_wp2_with fail
          go_roundw
          case rel => exact ⟨j + 1, _, by omega, by go_num, K5.out⟩
          case measure => simp [intOf]; omega
      · rw [kd] at r1
        rw [km] at hsi e1 e2
        have KM := Lib.hid km
        have b1 : tnE (askC c 1) true = 0 := by unfold tnE; rw [kb]; rfl
        have hsi' : (askC c 1).si = 0 := hsi
        rw [ka] at r0
        clear M km kd kb ka
        go_wp2_with fail
        refine r0.mono ?_
        rintro e w' ⟨rfl, rfl⟩
        go_wp2_with fail
        refine r1.mono ?_
        rintro e w2 ⟨rfl, h2, o2⟩
        have K3 := Lib.hid (K2.out.next h2 o2 A2.out)
        clear r0 r1 h2 o2 K2
        have s1 : Hid (∀ m, Calls Try.prog 12 #[.pointer (some ⟨p, 0, none⟩)] (w2.drewN m) fun e w' => e = .returned (.int .i64 (0 : Int)) ∧ w2.drewN m = w') := fun m => by
          have := pSince_any _ p _ (K3.out.drewN m).hp K3.out.at'.good.tr0
          rw [hsi'] at this
          exact this
        have d1 := K3.out.tb.cells.2.1
        go_wp2_with fail
        go_quiet (first | (go_at_call 12; exact quiet_same (s1.out _)))
        have K4 := Lib.hid (K3.out.drewN nq)
        clear s1 K3
        have s2 := pBegin_any _ p _ K4.out.hp K4.out.at'.good
        rw [b1] at s2
        go_wp2_with fail
        refine s2.mono ?_
        rintro e w3 ⟨rfl, h3, o3⟩
        have K5 := Lib.hid (K4.out.next h3 o3 (K4.out.at'.turn KM.out true))
        clear h3 o3 s2 K4
        go_wp2_with fail
        go_roundw
        case rel => exact ⟨j + 1, _, by omega, by go_num, K5.out⟩
        case measure => simp [intOf]; omega
    · obtain rfl : j = n := by omega
      have s1 := pTotal_any _ p _ K2.out.hp K2.out.at'.good.tr0
      rw [K2.out.at'.tot] at s1
      go_wp2_with fail
      refine s1.mono ?_
      rintro e w' ⟨rfl, rfl⟩
      go_wp2_with fail
      refine (aw _).mono ?_
      rintro e w6 ⟨rfl, b6⟩
      go_wp2_with fail
      go_ret
      exact ⟨rfl, K2.out.bel.trans (b6.mono K2.out.bel.size)⟩
theorem every_walk (w : World) (q t k a many : Int) (ends : Bool) (hm : 0 ≤ many ∧ many ≤ 65535) :
    Calls Try.prog 4 #[TV q t k a, .int .u16 many, .bool ends] w fun e w' => e = .returned (.bool true) ∧ Below w.heap.size w w' := by
  by_cases hf : Fit t a
  · by_cases hb : t ≤ 300
    · exact every_in w q t k a many (many % 1001).toNat ends hf hb hm.1 hm.2 (by omega)
    · exact every_big w q t k a many ends hf (by omega)
  · exact every_out w q t k a many ends hf
end Go.Proofs.Ytembhdlhhhdpiaa
