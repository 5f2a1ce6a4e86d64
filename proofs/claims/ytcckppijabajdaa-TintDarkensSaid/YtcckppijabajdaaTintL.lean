/- The walk of TintAlone. -/
import Derived.Test.YtcckppijabajdaaTintF
namespace Go.Proofs.Ytcckppijabajdaa
open Go.RowKit

/-- a Tint is kept where an owned row of bytes is appended to -/
theorem Tn.grown {w w' : World} {p g B n : Nat} {cs : List Int} {m : Int} {v : Value} {xs : List Value} (hT : Tn w p g cs m) (ho : w.ownsRow B 5 1 v n xs) (hg : w.grownBy w' v.ownBlock) : Tn w' p g cs m := by
  obtain ⟨f, last, h1, h2, _⟩ := id hT
  have key : ∀ b t (c : Array Value), w.heap[b]? = some (.cells c t (0, 0)) → t ≠ 5 → some b ≠ v.ownBlock := by
    intro b t c hb ht e
    rcases ho.2 with ⟨rfl, _⟩ | ⟨gg, cap, cur, rfl, _, hh, _⟩
    · simp [Value.ownBlock] at e
    · simp [Value.ownBlock] at e
      subst e
      rw [hb] at hh
      injection hh with hh
      injection hh with _ hh
      exact ht hh
  exact hT.keep (hg.block p (ltOf h1) (key p 50 _ h1 (by decide))) (hg.block g (ltOf h2) (key g 48 _ h2 (by decide)))

/-- the row 'was', read -/
def Was (w : World) (p g : Nat) (v : Value) (n : Nat) (cs : List Int) : Prop :=
  0 < n → ∃ gw cap, v = .slice (some ⟨gw, 0, none⟩) n cap ∧ gw < w.heap.size ∧ gw ≠ p ∧ gw ≠ g ∧ ∀ i, i < n → w.cell? ⟨gw, i, none⟩ = some (.int .u8 (cs.getD i 0))
theorem was_of {w : World} {p g B n : Nat} {cs : List Int} {m : Int} {v : Value} (h : Tn w p g cs m) (hl : cs.length = n) (ho : w.ownsRow B 5 1 v n (cs.map (Value.int .u8))) : Was w p g v n cs := by
  intro hn
  obtain ⟨f, last, h1, h2, _⟩ := h
  obtain ⟨gw, cap, rfl, _, hlt⟩ := ho.form hn
  have key : ∀ b t (c : Array Value), w.heap[b]? = some (.cells c t (0, 0)) → t ≠ 5 → gw ≠ b := by
    intro b t c hb ht e
    subst e
    rcases ho.2 with ⟨h, _⟩ | ⟨gg, cap, cur, h, _, hh, _⟩
    · cases h
    · injection h with h; injection h with h; injection h with h
      subst h
      rw [hb] at hh
      injection hh with hh
      injection hh with _ hh
      exact ht hh
  refine ⟨gw, cap, rfl, hlt, key p 50 _ h1 (by decide), key g 48 _ h2 (by decide), fun i hi => ?_⟩
  rw [ho.cellAt i (by omega)]
  simp [show i < cs.length from by omega]
theorem Was.only {w w' : World} {p g n : Nat} {cs : List Int} {v : Value} (h : Was w p g v n cs) (ho : Only w w' p g) : Was w' p g v n cs := by
  intro hn
  obtain ⟨gw, cap, e, hlt, h1, h2, hc⟩ := h hn
  exact ⟨gw, cap, e, Nat.lt_of_lt_of_le hlt ho.size, h1, h2, fun i hi => (World.cell?_of_block (w := w) (ho.block gw hlt h1 h2)).trans (hc i hi)⟩

/-- Go's 'l[i].What % 4' and '% 2' -/
theorem ofC_in {cs : List Int} {k : Nat} (h : k < cs.length) : ofC cs k = cs.getD k 0 := by unfold ofC; rw [if_pos (by omega), Int.toNat_natCast]
theorem blC_other {cs : List Int} {s : Int} {k : Nat} (h : (k : Int) ≠ s) : (blC cs s).getD k 0 = cs.getD k 0 := by
  unfold blC
  split
  · rename_i hs
    simp only [List.getD_eq_getElem?_getD]
    rw [List.getElem?_set_ne (by omega)]
  · rfl
theorem shC_other {cs : List Int} {s : Int} {k : Nat} (h : (k : Int) ≠ s) : (shC cs s).getD k 0 = cs.getD k 0 := by
  unfold shC
  split
  · rename_i hs
    have : 0 ≤ s := by
      unfold shB at hs
      simp at hs; omega
    simp only [List.getD_eq_getElem?_getD]
    rw [List.getElem?_set_ne (by omega)]
  · rfl

theorem take_map_snoc (cs : List Int) (j : Nat) (h : j < cs.length) : (cs.map (Value.int .u8)).take j ++ [.int .u8 (cs.getD j 0)] = (cs.map (Value.int .u8)).take (j + 1) := by
  rw [List.take_succ_eq_append_getElem (by simpa using h)]
  simp [h]

/-- the struct that came in by value lies in the first new block -/
def Bx (w wr : World) (xw xs : Int) : Prop := Below (w.heap.size + 1) (w.alloc (.cells #[.int .u8 xw, .int .i64 xs] 31)) wr
theorem Bx.cell0 {w wr : World} {xw xs : Int} (h : Bx w wr xw xs) : wr.cell? ⟨w.heap.size, 0, none⟩ = some (.int .u8 xw) := by
  rw [Below.cell h (by simp), World.cell?_alloc_at _ _ _ _ rfl]; rfl
theorem Bx.cell1 {w wr : World} {xw xs : Int} (h : Bx w wr xw xs) : wr.cell? ⟨w.heap.size, 1, none⟩ = some (.int .i64 xs) := by
  rw [Below.cell h (by simp), World.cell?_alloc_at _ _ _ _ rfl]; rfl
theorem Bx.size {w wr : World} {xw xs : Int} (h : Bx w wr xw xs) : w.heap.size + 1 ≤ wr.heap.size := by
  have := Below.size h; simpa using this
theorem Bx.below {w wr : World} {xw xs : Int} (h : Bx w wr xw xs) : Below w.heap.size w wr := ((Below.refl _ _).alloc (Nat.le_refl _) _).trans (Below.mono h (by omega))
theorem Bx.step {w wr wx : World} {xw xs : Int} (h : Bx w wr xw xs) (hb : Below (w.heap.size + 1) wr wx) : Bx w wx xw xs := Below.trans h hb
theorem Bx.old {w wr : World} {xw xs : Int} (h : Bx w wr xw xs) {b : Nat} (hb : b < w.heap.size) (o : Nat) : wr.cell? ⟨b, o, none⟩ = w.cell? ⟨b, o, none⟩ := h.below.cell (p := ⟨b, o, none⟩) hb

set_option maxHeartbeats 1600000 in
theorem alone_walk (w : World) (many xw xs : Int) (A : Option Addr) (len cap : Nat) (what slot : Nat → Int) (hm : 0 ≤ many ∧ many ≤ 65535) (hxw : 0 ≤ xw ∧ xw ≤ 255) (hA : Acts w A len what slot) :
    Calls Try.prog 5 #[.int .u16 many, .slice A len cap, .agg #[.int .u8 xw, .int .i64 xs]] w fun e w' => e = .returned (.bool true) ∧ Below w.heap.size w w' := by
  obtain ⟨hm0, hm1⟩ := hm
  obtain ⟨hx0, hx1⟩ := hxw
  obtain ⟨n, hn⟩ : ∃ n : Nat, many % 301 = n := ⟨(many % 301).toNat, by omega⟩
  have hn300 : n ≤ 300 := by omega
  have hN := fun w => tNew_in w n 1 (by omega) (by decide) (by decide)
  go_enter Try.func5, Try.ntmps5
  go_wp2_with fail
  refine (hN _).mono ?_
  rintro e w1 ⟨p, g, rfl, h1, b1, hp, hg⟩
  go_wp2_with fail
  have b2 : Bx w w1 xw xs := by unfold Bx; have := b1; rwa [World.size_alloc] at this
  have hp' : w.heap.size + 1 ≤ p := by have := hp; rwa [World.size_alloc] at this
  have hg' : w.heap.size + 1 ≤ g := by have := hg; rwa [World.size_alloc] at this
  clear hN hn hm0 hm1 b1 hp hg
  go_loopw [10] (fun i wr => ∃ (k : Nat) (cs : List Int), k ≤ len ∧ i = .int .i64 k ∧ Tn wr p g cs 1 ∧ cs.length = n ∧ Bx w wr xw xs) (fun i _ => len - (intOf i).toNat)
  case atStart => exact ⟨0, _, by omega, rfl, h1, List.length_replicate, b2⟩
  case round =>
    obtain ⟨k, cs, hk, rfl, hT, hlen, hB⟩ := hrel
    have HL := Lib.hid hlen
    clear hlen h1 b2
    by_cases hlt : k < len ∧ k < 60
    · obtain ⟨hlt, hl60⟩ := hlt
      obtain ⟨hA1, hA2, hA3, hA4⟩ := hA
      obtain ⟨b, off, rfl, hbb, hc⟩ := hA4 (by omega)
      have c1 := (hB.old hbb _).trans (hc k hlt).1
      have c2 := (hB.old hbb _).trans (hc k hlt).2
      have hw0 := (hA1 k).1
      have hw1 := (hA1 k).2
      have HB := Lib.hid hB
      have HT := Lib.hid hT
      clear hc hA1 hA2 hA4 hB hT
      by_cases hw : what k % 4 = 2
      · go_wp2_with fail
        refine (tBlack_any _ p g _ _ _ HT.out).mono ?_
        rintro e w2 ⟨rfl, hT2, o2⟩
        have hB2 := HB.out.step (o2.below hp' hg' HB.out.size)
        clear o2 HB HT c1 c2
        go_wp2_with fail
        go_roundw
        case rel => exact ⟨k + 1, _, by omega, by go_num, hT2, (blC_len _ _).trans HL.out, hB2⟩
        case measure => simp [intOf]; omega
      · have hw' : (what k % 4 == 2) = false := by rw [beq_eq_false_iff_ne]; exact hw
        clear hw
        go_wp2_with fail
        refine (tShade_any _ p g _ _ _ HT.out).mono ?_
        rintro e w2 ⟨rfl, hT2, o2⟩
        have hB2 := HB.out.step (o2.below hp' hg' HB.out.size)
        clear o2 HB HT c1 c2
        go_wp2_with fail
        go_roundw
        case rel => exact ⟨k + 1, _, by omega, by go_num, hT2, (shC_len _ _).trans HL.out, hB2⟩
        case measure => simp [intOf]; omega
    · clear hA
      have hlt' : len ≤ k ∨ (k < len ∧ 60 ≤ k) := by omega
      clear hlt
      obtain ⟨i0, hi, hz0, hz1, hz2⟩ := info_parts info5
      rcases hlt' with hlt | ⟨hlt, h60⟩
      all_goals
        go_wp2_with fail
        clear hlt hk
        have HT0 := Lib.hid hT
        have HB0 := Lib.hid hB
        clear hT hB
        go_loopw [11, 12] (fun v i wx => ∃ j : Nat, j ≤ n ∧ i = .int .i64 j ∧ Tn wx p g cs 1 ∧ Bx w wx xw xs ∧ wx.ownsRow (w.heap.size + 1) 5 1 v j ((cs.map (Value.int .u8)).take j)) (fun _ i _ => n - (intOf i).toNat)
        case atStart => exact ⟨0, by omega, rfl, HT0.out, HB0.out, World.ownsRow_nil _ _ _ _⟩
        case round =>
          obtain ⟨j, hj, rfl, hT, hB, hown⟩ := hrel
          clear HT0 HB0
          by_cases hjl : j < n
          · have c1 := tOf_any wr p g _ _ (j : Int) hT
            have hjc : j < cs.length := by have := HL.out; omega
            rw [ofC_in hjc, ofE_in hjc] at c1
            have HS := Lib.hid (take_map_snoc cs j hjc)
            have HB := Lib.hid hB
            have HT := Lib.hid hT
            have HO := Lib.hid (hown.alloc (.cells #[.int .u8 (cs.getD j 0)] 5))
            have HO1 := Lib.hid hown
            clear hB hT hown hjc
            generalize cs.getD j 0 = y at *
            go_wp2_with (first | (go_at_call 15; refine c1.mono ?_; rintro e w2 ⟨rfl, rfl⟩) | (at_builtin; refine wpList_append_own _ rfl (.tmp 74) (.tmp 76) 29 rfl (w.heap.size + 1) 5 i0 (.int .u8 0) 1 1 Try.underlying29 hi hz0 hz1 hz2 rfl (by decide) _ _ _ rfl HO.out ⟨wr.heap.size, 0, none⟩ 1 1 [.int .u8 y] rfl rfl ?c1 ?c2 ?c3 ?c4 ?c5 ?_))
            case c1 =>
              intro jj u hj
              match jj, hj with
              | 0, hj => simp at hj; subst hj; simp [Addr.add]
            case c2 => intro u hu; simp at hu; subst hu; rfl
            case c3 => unfold maxLen; omega
            case c4 => omega
            case c5 => have := HB.out.size; simp; omega
            · intro v' w1 hown' hgrow _
              have hown2 : w1.ownsRow (w.heap.size + 1) 5 1 v' (j + 1) ((cs.map (Value.int .u8)).take (j + 1)) := by rw [← HS.out]; exact hown'
              have hT2 : Tn w1 p g cs 1 := Tn.grown (HT.out.below ((Below.refl _ _).alloc (Nat.le_refl _) _) HT.out.lt.1 HT.out.lt.2) HO.out hgrow
              have hB2 : Bx w w1 xw xs := HB.out.step (((Below.refl _ _).alloc HB.out.size _).grown hgrow (by have := HB.out.size; simp; omega) (fun k hk => (HO1.out.lt k hk).1))
              clear hown' hgrow HS HB HT HO HO1 c1
              go_wp2_with fail
              go_roundw
              case rel => exact ⟨j + 1, by omega, by go_num, hT2, hB2, hown2⟩
              case measure => simp [intOf]; omega
          · obtain rfl : j = n := by omega
            have e : (cs.map (Value.int .u8)).take j = cs.map (Value.int .u8) := List.take_of_length_le (by have := HL.out; simp; omega)
            rw [e] at hown
            have HW := Lib.hid (was_of hT HL.out hown)
            have HB := Lib.hid hB
            have HT := Lib.hid hT
            have x0 := hB.cell0
            have x1 := hB.cell1
            clear e hB hT hown
            by_cases hj0 : 0 < j
            · obtain ⟨gw, capw, rfl, hlt, h1, h2, hc⟩ := HW.out hj0
              by_cases hx2 : xw % 2 = 0
              · go_wp2_with fail
                refine (tBlack_any _ p g _ _ _ HT.out).mono ?_
                rintro e w2 ⟨rfl, hT2, o2⟩
                have HB2 := Lib.hid (HB.out.step (o2.below hp' hg' HB.out.size))
                have x1' := (HB.out.step (o2.below hp' hg' HB.out.size)).cell1
                have HC1 := Lib.hid (fun i (hi : i < j) => (World.cell?_of_block (w := wr) (a := ⟨gw, i, none⟩) (o2.block gw hlt h1 h2)).trans (hc i hi))
                have HC2 := Lib.hid (fun (i : Nat) (hi : (i : Int) ≠ xs) => blC_other (cs := cs) hi)
                have HL2 := Lib.hid ((blC_len cs xs).trans HL.out)
                generalize blC cs xs = cs2 at *
                have HT2 := Lib.hid hT2
                clear o2 HB HT x0 x1 hT2 hlt hc
                go_wp2_with fail
                go_loop [15] (fun i => ∃ k3 : Nat, k3 ≤ j ∧ i = .int .i64 k3) (fun i => j - (intOf i).toNat)
                case atStart => exact ⟨0, by omega, rfl⟩
                case round =>
                  obtain ⟨k3, hk3, rfl⟩ := hrel
                  by_cases hk3l : k3 < j
                  · have c1 := tOf_any w2 p g _ _ (k3 : Int) HT2.out
                    rw [ofC_in (by rw [HL2.out]; exact hk3l), ofE_in (by rw [HL2.out]; exact hk3l)] at c1
                    have hcw := HC1.out k3 hk3l
                    by_cases hxe : (k3 : Int) = xs
                    · generalize cs2.getD k3 0 = y at *
                      have hxe' : ((k3 : Int) != xs) = false := by rw [bne_eq_false_iff_eq]; exact hxe
                      clear hxe
                      go_wp2_with (go_at_call 15; refine c1.mono ?_; rintro e w3 ⟨rfl, rfl⟩)
                      go_round
                      case rel => exact ⟨k3 + 1, by omega, by go_num⟩
                      case measure => simp [intOf]; omega
                    · rw [HC2.out k3 hxe] at c1
                      generalize cs.getD k3 0 = y at *
                      have hxe' : ((k3 : Int) != xs) = true := by rw [bne_iff_ne]; exact hxe
                      clear hxe
                      go_wp2_with (go_at_call 15; refine c1.mono ?_; rintro e w3 ⟨rfl, rfl⟩)
                      go_round
                      case rel => exact ⟨k3 + 1, by omega, by go_num⟩
                      case measure => simp [intOf]; omega
                  · have c2 := awake_any w2
                    go_wp2_with (go_at_call 8; refine c2.mono ?_; rintro e w3 ⟨rfl, b3⟩)
                    go_ret
                    exact ⟨rfl, HB2.out.below.trans (b3.mono (by have := HB2.out.size; omega))⟩
              have hx2' : (xw % 2 == 0) = false := by rw [beq_eq_false_iff_ne]; exact hx2
              clear hx2
              · go_wp2_with fail
                refine (tShade_any _ p g _ _ _ HT.out).mono ?_
                rintro e w2 ⟨rfl, hT2, o2⟩
                have HB2 := Lib.hid (HB.out.step (o2.below hp' hg' HB.out.size))
                have x1' := (HB.out.step (o2.below hp' hg' HB.out.size)).cell1
                have HC1 := Lib.hid (fun i (hi : i < j) => (World.cell?_of_block (w := wr) (a := ⟨gw, i, none⟩) (o2.block gw hlt h1 h2)).trans (hc i hi))
                have HC2 := Lib.hid (fun (i : Nat) (hi : (i : Int) ≠ xs) => shC_other (cs := cs) hi)
                have HL2 := Lib.hid ((shC_len cs xs).trans HL.out)
                generalize shC cs xs = cs2 at *
                have HT2 := Lib.hid hT2
                clear o2 HB HT x0 x1 hT2 hlt hc
                go_wp2_with fail
                go_loop [15] (fun i => ∃ k3 : Nat, k3 ≤ j ∧ i = .int .i64 k3) (fun i => j - (intOf i).toNat)
                case atStart => exact ⟨0, by omega, rfl⟩
                case round =>
                  obtain ⟨k3, hk3, rfl⟩ := hrel
                  by_cases hk3l : k3 < j
                  · have c1 := tOf_any w2 p g _ _ (k3 : Int) HT2.out
                    rw [ofC_in (by rw [HL2.out]; exact hk3l), ofE_in (by rw [HL2.out]; exact hk3l)] at c1
                    have hcw := HC1.out k3 hk3l
                    by_cases hxe : (k3 : Int) = xs
                    · generalize cs2.getD k3 0 = y at *
                      have hxe' : ((k3 : Int) != xs) = false := by rw [bne_eq_false_iff_eq]; exact hxe
                      clear hxe
                      go_wp2_with (go_at_call 15; refine c1.mono ?_; rintro e w3 ⟨rfl, rfl⟩)
                      go_round
                      case rel => exact ⟨k3 + 1, by omega, by go_num⟩
                      case measure => simp [intOf]; omega
                    · rw [HC2.out k3 hxe] at c1
                      generalize cs.getD k3 0 = y at *
                      have hxe' : ((k3 : Int) != xs) = true := by rw [bne_iff_ne]; exact hxe
                      clear hxe
                      go_wp2_with (go_at_call 15; refine c1.mono ?_; rintro e w3 ⟨rfl, rfl⟩)
                      go_round
                      case rel => exact ⟨k3 + 1, by omega, by go_num⟩
                      case measure => simp [intOf]; omega
                  · have c2 := awake_any w2
                    go_wp2_with (go_at_call 8; refine c2.mono ?_; rintro e w3 ⟨rfl, b3⟩)
                    go_ret
                    exact ⟨rfl, HB2.out.below.trans (b3.mono (by have := HB2.out.size; omega))⟩
            · obtain rfl : j = 0 := by omega
              by_cases hx2 : xw % 2 = 0
              · go_wp2_with fail
                refine (tBlack_any _ p g _ _ _ HT.out).mono ?_
                rintro e w2 ⟨rfl, hT2, o2⟩
                have HB2 := Lib.hid (HB.out.step (o2.below hp' hg' HB.out.size))
                clear o2 HB HT x0 x1 hT2
                have c2 := awake_any w2
                go_wp2_with fail
                go_loop [15] (fun i => i = .int .i64 0) (fun i => 0)
                case atStart => rfl
                case round =>
                  obtain rfl := hrel
                  go_wp2_with (go_at_call 8; refine c2.mono ?_; rintro e w3 ⟨rfl, b3⟩)
                  go_ret
                  exact ⟨rfl, HB2.out.below.trans (b3.mono (by have := HB2.out.size; omega))⟩
              have hx2' : (xw % 2 == 0) = false := by rw [beq_eq_false_iff_ne]; exact hx2
              clear hx2
              · go_wp2_with fail
                refine (tShade_any _ p g _ _ _ HT.out).mono ?_
                rintro e w2 ⟨rfl, hT2, o2⟩
                have HB2 := Lib.hid (HB.out.step (o2.below hp' hg' HB.out.size))
                clear o2 HB HT x0 x1 hT2
                have c2 := awake_any w2
                go_wp2_with fail
                go_loop [15] (fun i => i = .int .i64 0) (fun i => 0)
                case atStart => rfl
                case round =>
                  obtain rfl := hrel
                  go_wp2_with (go_at_call 8; refine c2.mono ?_; rintro e w3 ⟨rfl, b3⟩)
                  go_ret
                  exact ⟨rfl, HB2.out.below.trans (b3.mono (by have := HB2.out.size; omega))⟩
end Go.Proofs.Ytcckppijabajdaa
