/- The walks of Join, and of its reference. -/
import Derived.Test.YtccakpbgmgogeaaRawK
import Derived.Test.YtccakpbgmgogeaaSrcOwn
namespace Go.Proofs.Ytccakpbgmgogeaa
open Go.RowKit RawPlain

theorem conv_nil (w : World) : (convert 38 9 (.slice none 0 0)).run Try.prog w = .ok (.string (bs [])) w := by
  rw [run_convert_bytes_string w 38 9 5 none 0 0 Try.underlying38 Try.underlying5 Try.underlying9]
  unfold Conv.bytesToString
  simp [bs]
  rfl
theorem own_conv0 {w : World} {B n : Nat} {v : Value} {xs : List UInt8} (h : w.ownsRow B 5 1 v n (xs.map BV)) : (convert 38 9 v).run Try.prog w = .ok (.string (bs xs)) w := by
  rcases Nat.eq_zero_or_pos n with h0 | h0
  · have hx : xs = [] := List.eq_nil_of_length_eq_zero (by have := h.1; simpa [h0] using this)
    subst hx h0
    obtain ⟨hl, ⟨rfl, _⟩ | ⟨g, cap, cur, rfl, hb, hg, hc, hm, hs, ht⟩⟩ := h
    · exact conv_nil w
    · exact run_convert_bytes_back w 38 9 5 ⟨g, 0, none⟩ cap [] Try.underlying38 Try.underlying5 Try.underlying9 (fun j hj => absurd hj (Nat.not_lt_zero _))
  · exact own_conv h h0
/-- the first pieces -/
def FL (f : Nat → List UInt8) (k : Nat) : List (List UInt8) := (List.range k).map f
theorem FL_succ (f : Nat → List UInt8) (k : Nat) : FL f (k + 1) = FL f k ++ [f k] := by unfold FL; rw [List.range_succ, List.map_append]; rfl
def fitB (f : Nat → List UInt8) (k : Nat) : Bool := decide (∀ j, j < k → (f j).length ≤ 255)
def joinS (f : Nat → List UInt8) (k : Nat) : List UInt8 := if fitB f k then join (FL f k) else []
def joinN (f : Nat → List UInt8) (k : Nat) : Int := if fitB f k then 0 else 2
def JoinPost (f : Nat → List UInt8) (len : Nat) (w : World) (e : Ending) (w' : World) : Prop := e = .returned (.tuple #[.string (bs (joinS f len)), .int .i64 (joinN f len)]) ∧ Below w.heap.size w w'
theorem join_snoc (l : List (List UInt8)) (p : List UInt8) : join (l ++ [p]) = join l ++ (UInt8.ofNat p.length :: p) := by unfold join; rw [List.flatMap_append]; simp [enc]
theorem join_len (f : Nat → List UInt8) : ∀ k, (∀ j, j < k → (f j).length ≤ 255) → (join (FL f k)).length ≤ 256 * k
  | 0, _ => by show (0 : Nat) ≤ _; omega
  | k + 1, h => by
    have ih := join_len f k (fun j hj => h j (by omega))
    have := h k (by omega)
    rw [FL_succ, join_snoc, List.length_append, List.length_cons]
    omega
theorem join_yes {f : Nat → List UInt8} {k : Nat} (h : ∀ j, j < k → (f j).length ≤ 255) : joinS f k = join (FL f k) ∧ joinN f k = 0 := by
  unfold joinS joinN fitB
  rw [decide_eq_true h]; exact ⟨rfl, rfl⟩
theorem join_no {f : Nat → List UInt8} {k j : Nat} (hj : j < k) (h : ¬ (f j).length ≤ 255) : joinS f k = [] ∧ joinN f k = 2 := by
  unfold joinS joinN fitB
  rw [decide_eq_false (fun x => h (x j hj))]; exact ⟨rfl, rfl⟩
set_option maxHeartbeats 1000000 in
theorem join_any (w : World) (A : Option Addr) (len cap : Nat) (f : Nat → List UInt8) (h : Strs w A len f) (hlen : len ≤ 4000) :
    Calls Try.prog 14 #[.slice A len cap] w (JoinPost f len w) := by
  obtain ⟨i0, hi, hz0, hz1, hz2⟩ := info_parts info5
  have HS := Lib.hid h
  clear h
  go_enter Try.func14, Try.ntmps14
  go_wp2_with fail
  go_loopw [4, 9] (fun v i wr => ∃ (k n : Nat), k ≤ len ∧ i = .int .i64 k ∧ (∀ j, j < k → (f j).length ≤ 255) ∧ wr.ownsRow w.heap.size 5 1 v n ((join (FL f k)).map BV) ∧ Below w.heap.size w wr) (fun _ i _ => len - (intOf i).toNat)
  case atStart => exact ⟨0, 0, by omega, rfl, fun j hj => absurd hj (Nat.not_lt_zero _), World.ownsRow_nil _ _ _ _, Below.refl _ _⟩
  case round =>
    obtain ⟨k, n, hk, rfl, hfit, hown, hbel⟩ := hrel
    have HF := Lib.hid hfit
    have HO := Lib.hid hown
    have HB := Lib.hid hbel
    have hn : n ≤ 256 * len := by
      have h1 := join_len f k hfit
      have h2 := hown.1
      rw [List.length_map, Nat.mul_one] at h2
      omega
    clear hfit hown hbel
    by_cases hlt : k < len
    · obtain ⟨b, off, rfl, hbb, hcell⟩ := HS.out.at_ (by omega)
      have ck : wr.cell? ⟨b, off + k, none⟩ = some (.string (bs (f k))) := (HB.out.cell (p := ⟨b, off + k, none⟩) hbb).trans (hcell k hlt)
      have hz := HS.out.sz k
      have bz : (bs (f k)).size = (f k).length := rfl
      have JS := Lib.hid (join_snoc (FL f k) (f k))
      clear hcell hbb
      obtain ⟨p, hp⟩ : ∃ p, f k = p := ⟨_, rfl⟩
      rw [hp] at ck hz bz JS
      have HP := Lib.hid hp
      clear hp
      by_cases hl : p.length ≤ 255
      · have hv : BV (UInt8.ofNat p.length) = .int .u8 (p.length : Int) := by unfold BV; rw [ofNat_len hl]
        have HV := Lib.hid hv
        have hsz := HB.out.size
        clear hv
        go_wp2_with (first
          | (at_builtin; refine wpList_append_own _ rfl _ _ 38 rfl w.heap.size 5 i0 (.int .u8 0) 1 1 Try.underlying38 hi hz0 hz1 hz2 rfl (by decide) _ _ _ rfl (HO.out.alloc _) ⟨wr.heap.size, 0, none⟩ 1 1 [.int .u8 (p.length : Int)] rfl rfl ?c1 ?c2 ?c3 ?c4 ?c5 ?_))
        case c1 =>
          intro j u hj
          match j, hj with
          | 0, hj => simp at hj; subst hj; simp [Addr.add]
        case c2 => intro u hu; simp at hu; subst hu; rfl
        case c3 => unfold maxLen; omega
        case c4 => omega
        case c5 => simp; omega
        intro v' w1 hown' hgrow hnil
        have hne : v' ≠ .slice none 0 0 := hnil
        have hb1 := (HB.out.alloc HB.out.size _).grown hgrow (by simp; omega) (fun j hj => (HO.out.lt j hj).1)
        have hb1s := hb1.size
        have hown2 : w1.ownsRow w.heap.size 5 1 v' (n + 1) ((join (FL f k) ++ [UInt8.ofNat p.length]).map BV) := by
          rw [List.map_append, List.map_cons, HV.out]; exact hown'
        have HO1 := Lib.hid hown2
        have HB1 := Lib.hid hb1
        have HNE := Lib.hid hne
        clear hown' hown2 hgrow hnil hne hb1 HO HB
        go_wp2_with (at_builtin; refine wpList_append_own_src _ rfl _ _ 38 9 rfl w.heap.size 5 i0 (.int .u8 0) 1 1 Try.underlying38 hi hz0 hz1 hz2 rfl _ _ _ rfl HO1.out _ _ _ rfl (Src.ofString _ Try.underlying9 (bs p)) HNE.out ?c1 ?c2 ?c3 ?_)
        case c1 => rw [bz]; unfold maxLen; omega
        case c2 => rw [bz]; omega
        case c3 => omega
        intro v2 w2 hown' hgrow _
        have hb2 := HB1.out.grown hgrow (by omega) (fun j hj => (HO1.out.lt j hj).1)
        have hown3 : w2.ownsRow w.heap.size 5 1 v2 (n + 1 + p.length) ((join (FL f (k + 1))).map BV) := by
          rw [FL_succ, HP.out, JS.out, show (join (FL f k) ++ UInt8.ofNat p.length :: p).map BV = (join (FL f k)).map BV ++ BV (UInt8.ofNat p.length) :: byteCells (bs p) from by simp [byteCells, bs]; exact fun _ _ => rfl]
          exact hown'
        have HO2 := Lib.hid hown3
        have HB2 := Lib.hid hb2
        clear hown' hown3 hgrow hb2 HO1 HB1
        go_wp2_with fail
        go_roundw
        case rel => exact ⟨k + 1, _, by omega, by go_num, fun j hj => by
          rcases Nat.lt_succ_iff_lt_or_eq.1 hj with h | rfl
          · exact HF.out j h
          · rw [HP.out]; exact hl, HO2.out, HB2.out⟩
        case measure => simp only [intOf]; omega
      · have hx := join_no (f := f) hlt (by rw [HP.out]; exact hl)
        have HX := Lib.hid hx
        clear hx
        go_wp2_with fail
        go_ret2
        exact ⟨by rw [HX.out.1, HX.out.2]; rfl, HB.out⟩
    · obtain rfl : k = len := by omega
      have hx := join_yes HF.out
      have HX := Lib.hid hx
      have hcv := own_conv0 HO.out
      clear hx
      go_wp2_with fail
      go_ret2
      exact ⟨by rw [HX.out.1, HX.out.2]; rfl, HB.out⟩
def RJoinPost (f : Nat → List UInt8) (len : Nat) (w : World) (e : Ending) (w' : World) : Prop := e = .returned (.tuple #[.string (bs (joinS f len)), .int .i64 (joinN f len)]) ∧ Below w.heap.size w w'
@[reducible] def SJ (w : World) (b o : Nat) (p : List UInt8) (w' : World) : Prop := b < w'.heap.size ∧ Below w.heap.size w w' ∧ w'.cell? ⟨b, o, none⟩ = some (.string (bs p))
theorem SJ.keep {w w1 w2 : World} {b o : Nat} {p : List UInt8} (h : SJ w b o p w1) (hb : Below w1.heap.size w1 w2) : SJ w b o p w2 :=
  ⟨Nat.lt_of_lt_of_le h.1 hb.size, h.2.1.trans (hb.mono h.2.1.size), (hb.cell (p := ⟨b, o, none⟩) h.1).trans h.2.2⟩
theorem SJ.drew {w w1 : World} {b o : Nat} {p : List UInt8} (h : SJ w b o p w1) : SJ w b o p w1.drew := ⟨h.1, h.2.1.drew, h.2.2⟩
set_option maxHeartbeats 1000000 in
theorem rjoin_any (w : World) (A : Option Addr) (len cap : Nat) (f : Nat → List UInt8) (h : Strs w A len f) (hlen : len ≤ 4000) :
    Calls Try.prog 15 #[.slice A len cap] w (RJoinPost f len w) := by
  have HS := Lib.hid h
  clear h
  go_enter Try.func15, Try.ntmps15
  go_wp2_with fail
  go_loopw [4, 5] (fun v i wr => ∃ (k : Nat) (s : ByteArray), k ≤ len ∧ i = .int .i64 k ∧ v = .string s ∧ (∀ j, j < k → (f j).length ≤ 255) ∧ s = bs (join (FL f k)) ∧ Below w.heap.size w wr) (fun _ i _ => len - (intOf i).toNat)
  case atStart => exact ⟨0, _, by omega, rfl, rfl, fun j hj => absurd hj (Nat.not_lt_zero _), rfl, Below.refl _ _⟩
  case round =>
    obtain ⟨k, s, hk, rfl, rfl, hfit, hs, hbel⟩ := hrel
    have HF := Lib.hid hfit
    have HB := Lib.hid hbel
    have hn : s.size ≤ 256 * len := by
      have h1 := join_len f k hfit
      rw [hs, bs_size]; omega
    have HSs := Lib.hid hs
    clear hfit hbel hs
    by_cases hlt : k < len
    · obtain ⟨b, off, rfl, hbb, hcell⟩ := HS.out.at_ (by omega)
      have ck : wr.cell? ⟨b, off + k, none⟩ = some (.string (bs (f k))) := (HB.out.cell (p := ⟨b, off + k, none⟩) hbb).trans (hcell k hlt)
      have hz := HS.out.sz k
      have bz : (bs (f k)).size = (f k).length := rfl
      have hwsz := HB.out.size
      have JS := Lib.hid (join_snoc (FL f k) (f k))
      obtain ⟨p, hp⟩ : ∃ p, f k = p := ⟨_, rfl⟩
      rw [hp] at ck hz bz JS
      have HP := Lib.hid hp
      clear hp hcell
      by_cases hl : p.length ≤ 255
      · have cb := fun w => bytes_at (p.length : Int) 1 1 rfl (by omega) (by omega) (by omega) w
        have e1 : be 1 (p.length : Int).toNat = [UInt8.ofNat p.length] := by show [UInt8.ofNat ((p.length : Int).toNat % 256)] = _; rw [Int.toNat_natCast, Nat.mod_eq_of_lt (by omega)]
        rw [e1] at cb
        have a1 : s ++ bs [UInt8.ofNat p.length] ++ bs p = bs (join (FL f (k + 1))) := by
          rw [HSs.out, bs_append, bs_append, FL_succ, HP.out, JS.out, List.append_assoc]; rfl
        have z1 : (9223372036854775807 < s.size + (bs [UInt8.ofNat p.length]).size) = False := eq_false (by rw [bs_size]; show ¬ _ < s.size + 1; omega)
        have z2 : (9223372036854775807 < (s ++ bs [UInt8.ofNat p.length]).size + p.length) = False := eq_false (by rw [ByteArray.size_append, bs_size]; show ¬ _ < s.size + 1 + _; omega)
        have w1 : IntKind.u64.wrap (p.length : Int) = (p.length : Int) := by rw [IntKind.wrap_u64]; omega
        have hi0 : (0 : Int) ≤ (k : Int) := by omega
        have hi1 : (k : Int) < (len : Int) := by omega
        obtain ⟨s1, hs1⟩ : ∃ x, bs [UInt8.ofNat p.length] = x := ⟨_, rfl⟩
        rw [hs1] at cb a1 z1 z2
        obtain ⟨s2, hs2⟩ : ∃ x, s ++ s1 = x := ⟨_, rfl⟩
        rw [hs2] at a1 z2
        have A1 := Lib.hid a1
        have hs0 : SJ w b (off + k) p wr := ⟨Nat.lt_of_lt_of_le hbb hwsz, HB.out, ck⟩
        have HS0 := Lib.hid hs0.drew
        clear hs1 a1 e1 hs0
        go_wp2_with fail
        have hs := HS0.out
        unfold SJ at hs
        clear HS0 ck
        go_region_held3 (fun w' => b < w'.heap.size ∧ Below w.heap.size w w' ∧ w'.cell? ⟨b, off + k, none⟩ = some (.string (bs p))) (first | assumption | go_keep)
          (first
            | (go_at_call 23; (with_reducible refine (cb _).mono ?_); rintro e w2 ⟨rfl, hb2⟩; have hs2 := SJ.keep (by assumption) hb2; unfold SJ at hs2))
        have HB2 := Lib.hid hs2.2.1
        clear hs hs2 hb2
        go_wp2_with fail
        go_roundw
        case rel => exact ⟨k + 1, _, by omega, by go_num, rfl, fun j hj => by
          rcases Nat.lt_succ_iff_lt_or_eq.1 hj with h | rfl
          · exact HF.out j h
          · rw [HP.out]; exact hl, A1.out, HB2.out⟩
        case measure => simp only [intOf]; omega
      · have hx := join_no (f := f) hlt (by rw [HP.out]; exact hl)
        have HX := Lib.hid hx
        clear hx
        go_wp2_with fail
        go_ret2
        exact ⟨by rw [HX.out.1, HX.out.2]; rfl, HB.out⟩
    · obtain rfl : k = len := by omega
      have hx := join_yes HF.out
      have HX := Lib.hid hx
      clear hx
      go_wp2_with fail
      go_ret2
      exact ⟨by rw [HX.out.1, HX.out.2, ← HSs.out]; rfl, HB.out⟩
end Go.Proofs.Ytccakpbgmgogeaa
