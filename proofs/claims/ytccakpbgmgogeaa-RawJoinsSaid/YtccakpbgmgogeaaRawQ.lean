/- The walk of RawJoins. -/
import Derived.Test.YtccakpbgmgogeaaRawP
import Derived.Test.YtccakpbgmgogeaaSrcOwnG
namespace Go.Proofs.Ytccakpbgmgogeaa
open Go.RowKit RawPlain

theorem strs_src {w : World} {A : Option Addr} {len cap : Nat} {f : Nat → List UInt8} (h : Strs w A len f) : Src Try.prog 1 40 (.slice A len cap) len ((FL f len).map SV) w := by
  have hl : ((FL f len).map SV).length = len * 1 := by unfold FL; simp
  rcases Nat.eq_zero_or_pos len with h0 | h0
  · subst h0
    cases A with
    | none => exact Src.ofNil w Try.underlying40 cap
    | some a => exact Src.ofSlice w Try.underlying40 a 0 cap [] rfl (fun j u hj => by simp at hj) (fun u hu => by cases hu)
  · obtain ⟨b, off, rfl, hb, hc⟩ := h.at_ h0
    refine Src.ofSlice w Try.underlying40 ⟨b, off, none⟩ len cap _ hl (fun j u hj => ?_) (fun u hu => ?_)
    · have hj' : j < len := by
        have := (List.getElem?_eq_some_iff.1 hj).1
        rw [hl] at this
        omega
      have hadd : (⟨b, off, none⟩ : Addr).add j = ⟨b, off + j, none⟩ := by unfold Addr.add; split <;> simp_all
      rw [hadd, hc j hj']
      unfold FL at hj
      rw [List.getElem?_map, List.getElem?_map, List.getElem?_range hj'] at hj
      exact hj
    · obtain ⟨q, _, rfl⟩ := List.mem_map.1 hu
      rfl
theorem FL_getD (f : Nat → List UInt8) (n i : Nat) (h : i < n) : (FL f n).getD i [] = f i := by
  unfold FL
  rw [List.getD_eq_getElem?_getD, List.getElem?_map, List.getElem?_range h]; rfl
theorem FL_of (X : List (List UInt8)) : FL (fun i => X.getD i []) X.length = X := by
  unfold FL
  apply List.ext_getElem?
  intro i
  rcases Nat.lt_or_ge i X.length with h | h
  · rw [List.getElem?_map, List.getElem?_range h, List.getElem?_eq_getElem h]
    show some (X.getD i []) = _
    rw [List.getD_eq_getElem?_getD, List.getElem?_eq_getElem h]; rfl
  · rw [List.getElem?_eq_none (by simp; exact h), List.getElem?_eq_none h]
theorem FL_len (f : Nat → List UInt8) (n : Nat) : (FL f n).length = n := by unfold FL; simp
/-- the sizes of the first pieces -/
def szs (f : Nat → List UInt8) : Nat → Nat
  | 0 => 0
  | k + 1 => szs f k + (f k).length
theorem szs_eq (f : Nat → List UInt8) : ∀ k, szs f k = (FL f k).flatten.length
  | 0 => rfl
  | k + 1 => by rw [FL_succ, List.flatten_append, List.length_append, ← szs_eq f k]; simp [szs]
theorem szs_mono (f : Nat → List UInt8) {k n : Nat} (h : k ≤ n) : szs f k ≤ szs f n := by
  induction n with
  | zero => obtain rfl : k = 0 := by omega
            exact Nat.le_refl _
  | succ n ih =>
    rcases Nat.lt_or_ge k (n + 1) with h' | h'
    · exact Nat.le_trans (ih (by omega)) (Nat.le_add_right _ _)
    · obtain rfl : k = n + 1 := by omega
      exact Nat.le_refl _
theorem same_beq (s t : List UInt8) : ((bs s).toList == (bs t).toList) = decide (s = t) := by
  rw [bs_toList, bs_toList, Bool.eq_iff_iff, beq_iff_eq, decide_eq_true_iff]
set_option maxRecDepth 100000 in
set_option maxHeartbeats 4000000 in
theorem joins_walk (s : List UInt8) (hs : s.length ≤ 9223372036854775807) (W : World) (A : Option Addr) (len cap : Nat) (f : Nat → List UInt8) (h : Strs W A len f) :
    Calls Try.prog 6 #[.string (bs s), .slice A len cap] W (LawPost W) := by
  have hsz : (bs s).size = s.length := rfl
  have HS := Lib.hid h
  clear h
  by_cases hl : 3000 < s.length
  · go_enter Try.func6, Try.ntmps6
    go_wp2_with fail
    refine (awake_any _).mono ?_
    rintro e w1 ⟨rfl, b1⟩
    have B1 := Lib.hid b1
    clear b1
    go_wp2_with fail
    go_ret
    exact ⟨rfl, B1.out⟩
  · have cg := great_any W A len cap f HS.out
    cases hg : greatB f len with
    | true =>
      rw [hg] at cg
      clear hg
      go_enter Try.func6, Try.ntmps6
      go_wp2_with fail
      refine cg.mono ?_
      rintro e w1 ⟨rfl, k1, rfl⟩
      go_wp2_with fail
      refine (awake_any _).mono ?_
      rintro e w2 ⟨rfl, b2⟩
      have B2 := Lib.hid ((below_drewN W k1).trans b2)
      clear b2
      go_wp2_with fail
      go_ret
      exact ⟨rfl, B2.out⟩
    | false =>
      rw [hg] at cg
      have hlen := great_len hg
      clear hg
      obtain ⟨i0, hi, hz0, hz1, hz2⟩ := info_parts info9
      have cs := fun w => split_strs s (by omega) w
      have cw := fun w => whole_any s (by omega) w
      have hps := pieces_size s
      obtain ⟨n, hn⟩ : ∃ n, (pieces s).length = n := ⟨_, rfl⟩
      obtain ⟨P, hP⟩ : ∃ P, (fun i => (pieces s).getD i []) = P := ⟨_, rfl⟩
      have hFP : FL P n = pieces s := by rw [← hP, ← hn]; exact FL_of _
      have hn3 : n ≤ 3000 := by omega
      have hsum : n + szs P n = s.length := by rw [szs_eq, hFP]; omega
      have hPf : ∀ j, j < n → (P j).length ≤ 255 := fun j hj => by
        rw [← FL_getD P n j hj, hFP, List.getD_eq_getElem?_getD, List.getElem?_eq_getElem (by omega)]
        exact pieces_fit s _ (List.getElem_mem _)
      have hjp := join_yes (f := P) (k := n) hPf
      rw [hFP] at hjp
      have hback : decide (join (pieces s) = s) = whole s := by
        rw [Bool.eq_iff_iff, decide_eq_true_iff]; exact join_pieces s
      rw [hn, hP] at cs
      obtain ⟨Wh, hWh⟩ : ∃ x, whole s = x := ⟨_, rfl⟩
      rw [hWh] at cw hback
      have hbeq := same_beq (join (pieces s)) s
      rw [hback] at hbeq
      have cjp := fun w (c : Nat) A h => join_any w A n c P h (by omega)
      unfold JoinPost at cjp
      rw [hjp.1, hjp.2] at cjp
      obtain ⟨sp, hsp⟩ : ∃ x, bs (join (pieces s)) = x := ⟨_, rfl⟩
      rw [hsp] at cjp hbeq
      have cj := fun w h => join_any w A len cap f h (by omega)
      unfold JoinPost at cj
      have HJP := Lib.hid (And.intro hFP hPf)
      have HSUM := Lib.hid hsum
      clear hps hn hP hFP hjp hback hWh hsp hsum hPf
      go_enter Try.func6, Try.ntmps6
      go_wp2_with fail
      refine cg.mono ?_
      rintro e w0 ⟨rfl, k0, rfl⟩
      go_wp2_with fail
      have H0 := HS.out.drew k0
      refine (cj _ H0).mono ?_
      rintro e w1 ⟨rfl, b1⟩
      have B1 := Lib.hid ((below_drewN (B := W.heap.size) W k0).trans b1)
      clear b1 cg H0 cj
      go_wp2_with fail
      refine (cs _).mono ?_
      rintro e w2 ⟨A1, c1, rfl, h2, b2⟩
      have B2 := Lib.hid (bel2 B1.out b2 B1.out.size)
      have H2 := Lib.hid h2
      clear b2 h2 B1 cs
      by_cases hfit : ∀ j, j < len → (f j).length ≤ 255
      case neg =>
        have hx : joinS f len = [] ∧ joinN f len = 2 := by
          unfold joinS joinN fitB
          rw [decide_eq_false hfit]; exact ⟨rfl, rfl⟩
        rw [hx.1, hx.2]
        clear hx hfit
        go_wp2_with fail
        go_loop [8, 9] (fun a i => ∃ k : Nat, k ≤ n ∧ i = .int .i64 k ∧ a = .int .i64 ((n + szs P k : Nat) : Int)) (fun _ i => n - (intOf i).toNat)
        case atStart => exact ⟨0, by omega, rfl, by simp [szs]⟩
        case round =>
          obtain ⟨k, hk, rfl, rfl⟩ := hrel
          have hb := szs_mono P hk
          have hsum := HSUM.out
          obtain ⟨Z, hZ⟩ : ∃ Z : Int, ((n + szs P k : Nat) : Int) = Z := ⟨_, rfl⟩
          have z0 : 0 ≤ Z := by omega
          have z1 : Z ≤ 3000 := by omega
          rw [hZ]
          have HZ := Lib.hid hZ
          clear hZ hb hsum
          by_cases hlt : k < n
          · obtain ⟨b, off, rfl, hbb, hcell⟩ := H2.out.at_ (by omega)
            have ck := hcell k hlt
            have hq := HJP.out.2 k hlt
            have bz : (bs (P k)).size = (P k).length := rfl
            have hs1 : Hid (Z + (P k).length = ((n + szs P (k + 1) : Nat) : Int)) := Lib.hid (by rw [← HZ.out]; simp [szs]; omega)
            clear hcell
            generalize (P k).length = Lk at *
            go_wp2_with fail
            go_round
            case rel => exact ⟨k + 1, by omega, by go_num, by rw [hs1.out]⟩
            case measure => simp only [intOf]; omega
          · obtain rfl : k = n := by omega
            have hsum := HSUM.out
            have hz : Z = (s.length : Int) := by rw [← HZ.out]; omega
            clear hsum z0 z1 HZ
            subst hz
            go_wp2_with fail
            refine (cjp _ _ _ H2.out).mono ?_
            rintro e v1 ⟨rfl, d1⟩
            have D1 := Lib.hid (bel2 B2.out d1 B2.out.size)
            clear d1
            go_wp2_with fail
            refine (cw _).mono ?_
            rintro e v2 ⟨rfl, q2, rfl⟩
            go_wp2_with fail
            refine (awake_any _).mono ?_
            rintro e v3 ⟨rfl, d3⟩
            have D3 := Lib.hid (bel2 (D1.out.trans (below_drewN v1 _)) d3 D1.out.size)
            clear d3
            go_wp2_with fail
            go_ret
            exact ⟨rfl, D3.out⟩
      case pos =>
        have hx := join_yes hfit
        have hjl := join_len f len hfit
        have hft : fits (FL f len) := fun q hq => by
          unfold FL at hq
          obtain ⟨j, hj, rfl⟩ := List.mem_map.1 hq
          exact hfit j (List.mem_range.1 hj)
        have cw1 := fun w => whole_any (join (FL f len)) (by omega) w
        rw [whole_join hft] at cw1
        have cs1 := fun w => split_strs (join (FL f len)) (by omega) w
        rw [pieces_join' hft, FL_len] at cs1
        have cs2 := fun w => split_strs (join (FL f len) ++ s) (by rw [List.length_append]; omega) w
        rw [pieces_join hft s, ← HJP.out.1, List.length_append, FL_len, FL_len] at cs2
        have r1 : ∀ w, (Op.stringOp .add (bs (join (FL f len))) (bs s)).run Try.prog w = .ok (.string (bs (join (FL f len) ++ s))) w := fun w => by rw [run_string_add_sum w _ _ (by rw [bs_size, bs_size]; omega), bs_append]
        rw [hx.1, hx.2]
        obtain ⟨F1, hF1⟩ : ∃ F1, (fun i => (FL f len).getD i []) = F1 := ⟨_, rfl⟩
        rw [hF1] at cs1
        have HF1 : Hid (∀ i, i < len → F1 i = f i) := Lib.hid (fun i hi => by rw [← hF1]; exact FL_getD f len i hi)
        have HXL : Hid (∀ p ∈ FL f len ++ FL P n, p.length ≤ 9223372036854775807) := Lib.hid (fun q hq => by
          rcases List.mem_append.1 hq with hq | hq
          · have := hft q hq; omega
          · unfold FL at hq
            obtain ⟨j, hj, rfl⟩ := List.mem_map.1 hq
            have := HJP.out.2 j (List.mem_range.1 hj); omega)
        clear hx hjl hft hfit hF1
        generalize bs (join (FL f len) ++ s) = s2 at *
        generalize bs (join (FL f len)) = s1 at *
        go_wp2_with fail
        refine (cw1 _).mono ?_
        rintro e w3 ⟨rfl, k3, rfl⟩
        go_wp2_with fail
        refine (cs1 _).mono ?_
        rintro e w4 ⟨A4, c4, rfl, h4, b4⟩
        have B4 := Lib.hid (bel2 (B2.out.trans (below_drewN w2 k3)) b4 B2.out.size)
        have H4 := Lib.hid ((H2.out.drew k3).below b4 (Nat.le_refl _))
        have I4 := Lib.hid h4
        clear b4 h4 cw1 cs1 B2 H2
        go_wp2_with fail
        refine (same_yes _ _ _ len c4 cap F1 f I4.out (HS.out.below B4.out (Nat.le_refl _)) HF1.out).mono ?_
        rintro e w5 ⟨rfl, k5, rfl⟩
        go_wp2_with fail
        refine (cs2 _).mono ?_
        rintro e w6 ⟨A6, c6, rfl, h6, b6⟩
        have B6 := Lib.hid (bel2 (B4.out.trans (below_drewN w4 k5)) b6 B4.out.size)
        have H6 := Lib.hid ((H4.out.drew k5).below b6 (Nat.le_refl _))
        have I6 := Lib.hid h6
        clear b6 h6 cs2 B4 H4 I4 r1
        have OW := Lib.hid (World.ownsRow_made (base := w6.heap.size) (e := 9) (size := 1) w6 #[] 0 (Nat.le_refl _) (by unfold maxLen; omega) rfl)
        have B7 := Lib.hid ((Below.refl w6.heap.size w6).alloc (Nat.le_refl _) (.cells #[] 9))
        have X1 := Lib.hid (strs_src (cap := cap) ((HS.out.below B6.out (Nat.le_refl _)).below B7.out (Nat.le_refl _)))
        have H7 := Lib.hid (H6.out.below B7.out (Nat.le_refl _))
        have I7 := Lib.hid (I6.out.below B7.out (Nat.le_refl _))
        go_wp2_with (refine wpList_append_own_src_g _ rfl _ _ 40 40 rfl w6.heap.size 9 i0 (.string ⟨#[]⟩) 1 16 Try.underlying40 hi hz0 hz1 hz2 rfl _ 0 [] rfl OW.out (.slice A len cap) len _ rfl X1.out (show Value.slice (some ⟨w6.heap.size, 0, none⟩) 0 0 ≠ .slice none 0 0 from by simp) ?c1 ?c2 ?c3 ?_)
        case c1 => unfold maxLen; omega
        case c2 => omega
        case c3 => simp
        intro v1 w7 hown hgrow hne
        have hb := B7.out.grown hgrow (by simp) (fun j hj => (OW.out.lt j hj).1)
        have H8 := Lib.hid (H6.out.below hb (Nat.le_refl _))
        have I8 := Lib.hid (I6.out.below hb (Nat.le_refl _))
        have B8 := Lib.hid hb
        have OW1 := Lib.hid hown
        have NE := Lib.hid hne
        have X2 := Lib.hid (strs_src (cap := c1) H8.out)
        clear hown hgrow hne hb OW X1 H7 I7 B7
        go_wp2_with (refine wpList_append_own_src_g _ rfl _ _ 40 40 rfl w6.heap.size 9 i0 (.string ⟨#[]⟩) 1 16 Try.underlying40 hi hz0 hz1 hz2 rfl _ _ _ rfl OW1.out (.slice A1 n c1) n _ rfl X2.out NE.out ?c1 ?c2 ?c3 ?_)
        case c1 => unfold maxLen; omega
        case c2 => omega
        case c3 => exact B8.out.size
        intro v2 w8 hown hgrow _
        have hb := B8.out.grown hgrow B8.out.size (fun j hj => (OW1.out.lt j hj).1)
        have hown' : w8.ownsRow w6.heap.size 9 1 v2 (len + n) ((FL f len ++ FL P n).map SV) := by rw [List.map_append]; first | exact hown | simpa using hown
        obtain ⟨A8, c8, rfl, -, -, hs8⟩ := strs_own hown' HXL.out (by omega)
        have H9 := Lib.hid (H6.out.below hb (Nat.le_refl _))
        have I9 := Lib.hid (I6.out.below hb (Nat.le_refl _))
        have S9 := Lib.hid hs8
        have B9 := Lib.hid (bel2 B6.out hb B6.out.size)
        clear hown hown' hgrow hb hs8 OW1 NE X2 H8 I8 B8 H6 I6 B6
        go_wp2_with fail
        refine (same_yes _ _ _ (len + n) c6 c8 _ _ I9.out S9.out (fun _ _ => rfl)).mono ?_
        rintro e w9 ⟨rfl, k9, rfl⟩
        have H10 := Lib.hid (H9.out.drew k9)
        have B10 := Lib.hid (B9.out.trans (below_drewN w8 k9))
        clear H9 I9 S9 B9
        generalize w8.drewN k9 = w10 at *
        go_wp2_with fail
        go_loop [8, 9] (fun a i => ∃ k : Nat, k ≤ n ∧ i = .int .i64 k ∧ a = .int .i64 ((n + szs P k : Nat) : Int)) (fun _ i => n - (intOf i).toNat)
        case atStart => exact ⟨0, by omega, rfl, by simp [szs]⟩
        case round =>
          obtain ⟨k, hk, rfl, rfl⟩ := hrel
          have hb := szs_mono P hk
          have hsum := HSUM.out
          obtain ⟨Z, hZ⟩ : ∃ Z : Int, ((n + szs P k : Nat) : Int) = Z := ⟨_, rfl⟩
          have z0 : 0 ≤ Z := by omega
          have z1 : Z ≤ 3000 := by omega
          rw [hZ]
          have HZ := Lib.hid hZ
          clear hZ hb hsum
          by_cases hlt : k < n
          · obtain ⟨b, off, rfl, hbb, hcell⟩ := H10.out.at_ (by omega)
            have ck := hcell k hlt
            have hq := HJP.out.2 k hlt
            have bz : (bs (P k)).size = (P k).length := rfl
            have hs1 : Hid (Z + (P k).length = ((n + szs P (k + 1) : Nat) : Int)) := Lib.hid (by rw [← HZ.out]; simp [szs]; omega)
            clear hcell
            generalize (P k).length = Lk at *
            go_wp2_with fail
            go_round
            case rel => exact ⟨k + 1, by omega, by go_num, by rw [hs1.out]⟩
            case measure => simp only [intOf]; omega
          · obtain rfl : k = n := by omega
            have hsum := HSUM.out
            have hz : Z = (s.length : Int) := by rw [← HZ.out]; omega
            clear hsum z0 z1 HZ
            subst hz
            go_wp2_with fail
            refine (cjp _ _ _ H10.out).mono ?_
            rintro e v1 ⟨rfl, d1⟩
            have D1 := Lib.hid (bel2 B10.out d1 B10.out.size)
            clear d1
            go_wp2_with fail
            refine (cw _).mono ?_
            rintro e v2 ⟨rfl, q2, rfl⟩
            go_wp2_with fail
            refine (awake_any _).mono ?_
            rintro e v3 ⟨rfl, d3⟩
            have D3 := Lib.hid (bel2 (D1.out.trans (below_drewN v1 _)) d3 D1.out.size)
            clear d3
            go_wp2_with fail
            go_ret
            exact ⟨rfl, D3.out⟩
end Go.Proofs.Ytccakpbgmgogeaa
