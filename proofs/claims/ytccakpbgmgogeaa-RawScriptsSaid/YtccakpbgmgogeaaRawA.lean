/- The walks of raw, and of its reference: small parts. -/
import Derived.Test.YtccakpbgmgogeaaRows
import Derived.Test.YtccakpbgmgogeaaRawPlain
import Derived.WalkKit
import Derived.WalkSpells
import Derived.WalkLawsBesides
import Derived.Below
import Derived.Deep.QuietTactic
import Derived.BigQuiet
import Derived.OwnWalk
import Derived.Lib.Hide
namespace Go.Proofs.Ytccakpbgmgogeaa
open Go.RowKit RawPlain

theorem ret_int {k : IntKind} {a b : Int} (h : a = b) : Ending.returned (.int k a) = .returned (.int k b) := by rw [h]
/-- a string's value, by its bytes -/
def bs (l : List UInt8) : ByteArray := ⟨l.toArray⟩
theorem bs_size (l : List UInt8) : (bs l).size = l.length := rfl
theorem bs_toList (l : List UInt8) : (bs l).toList = l := by rw [ByteArray.toList_eq]; rfl
theorem bs_extract (l : List UInt8) (i j : Nat) : (bs l).extract i j = bs ((l.take j).drop i) := by
  unfold bs
  apply ByteArray.ext
  simp [List.extract_toArray, List.drop_take]
theorem bs_append (a b : List UInt8) : bs a ++ bs b = bs (a ++ b) := by
  unfold bs
  apply ByteArray.ext
  simp
theorem bs_of (s : ByteArray) : ∃ l, s = bs l := ⟨s.data.toList, by unfold bs; simp⟩
theorem bs_get (n : UInt8) (t : List UInt8) (h : 0 < (bs (n :: t)).size) : (bs (n :: t))[0]'h = n := rfl

theorem byteful_any (n : Int) (w : World) : Calls Try.prog 19 #[.int .i64 n] w fun e w' => e = .returned (.bool (decide (0 ≤ n) && decide (n ≤ 255))) ∧ w = w' := by
  by_cases h0 : 0 ≤ n <;> by_cases h1 : n ≤ 255
  all_goals
    go_enter Try.func19, Try.ntmps19
    go_wp2_with fail
    go_ret
    exact ⟨by simp [h0, h1], rfl⟩

theorem cut_core (s : ByteArray) (w : World) (h : 0 < s.size) (hm : s.size < 9223372036854775808) (n : Nat) (hn : (s[0]'h).toNat = n) :
    Calls Try.prog 30 #[.string s] w fun e w' => e = .returned (.tuple (if s.size ≤ n then #[.string (s.extract 1 s.size), .string (bs []), .bool false] else #[.string (s.extract 1 (1 + n)), .string (s.extract (1 + n) s.size), .bool true])) ∧ ∃ k, w' = w.drewN k := by
  have hn1 : n < 256 := by rw [← hn]; exact (s[0]'h).toNat_lt
  have e : (((s[0]'h).toNat : Nat) : Int) = (n : Int) := by rw [hn]
  have en : wrap64 (n : Int) = n := by unfold wrap64; omega
  by_cases hle : s.size ≤ n
  · rw [if_pos hle]
    go_enter Try.func30, Try.ntmps30
    go_wp2_with fail
    go_ret3
    exact ⟨rfl, 0, rfl⟩
  · rw [if_neg hle]
    go_enter Try.func30, Try.ntmps30
    go_wp2_with fail
    go_quiet (fail)
    go_wp2_with fail
    go_ret3
    exact ⟨rfl, nq, rfl⟩

/-- what cut gives -/
def cutL (n : UInt8) (t : List UInt8) : Array Value := if n.toNat ≤ t.length then #[.string (bs (t.take n.toNat)), .string (bs (t.drop n.toNat)), .bool true] else #[.string (bs t), .string (bs []), .bool false]
theorem cut_any (n : UInt8) (t : List UInt8) (hl : t.length < 9223372036854775807) (w : World) :
    Calls Try.prog 30 #[.string (bs (n :: t))] w fun e w' => e = .returned (.tuple (cutL n t)) ∧ ∃ k, w' = w.drewN k := by
  have c := cut_core (bs (n :: t)) w (by rw [bs_size]; simp) (by rw [bs_size]; simp; omega) n.toNat rfl
  have e : (if (bs (n :: t)).size ≤ n.toNat then #[Value.string ((bs (n :: t)).extract 1 (bs (n :: t)).size), .string (bs []), .bool false] else #[.string ((bs (n :: t)).extract 1 (1 + n.toNat)), .string ((bs (n :: t)).extract (1 + n.toNat) (bs (n :: t)).size), .bool true]) = cutL n t := by
    unfold cutL
    rw [bs_size, List.length_cons, bs_extract, bs_extract, bs_extract]
    by_cases h : n.toNat ≤ t.length
    · rw [if_neg (by omega), if_pos h, Nat.add_comm 1 n.toNat]
      simp only [List.take_succ_cons, List.drop_succ_cons, List.drop_zero, List.take_length]
    · rw [if_pos (by omega), if_neg h]
      simp only [List.take_succ_cons, List.drop_succ_cons, List.drop_zero, List.take_length]
  rw [e] at c
  exact c

theorem empty_eq : (bs []).toList.isEmpty = true := by rw [bs_toList]; rfl
theorem cons_ne (n : UInt8) (t : List UInt8) : (bs (n :: t)).toList.isEmpty = false := by rw [bs_toList]; rfl
theorem drew2 (w : World) (a b : Nat) : (w.drewN a).drewN b = w.drewN (a + b) := by simp [World.drewN, Nat.add_assoc]
theorem cut_yes (n : UInt8) (t : List UInt8) (h : n.toNat ≤ t.length) (hl : t.length < 9223372036854775807) (w : World) :
    Calls Try.prog 30 #[.string (bs (n :: t))] w fun e w' => e = .returned (.tuple #[.string (bs (t.take n.toNat)), .string (bs (t.drop n.toNat)), .bool true]) ∧ ∃ k, w' = w.drewN k := by
  have := cut_any n t hl w
  unfold cutL at this
  rwa [if_pos h] at this
theorem cut_not (n : UInt8) (t : List UInt8) (h : ¬ n.toNat ≤ t.length) (hl : t.length < 9223372036854775807) (w : World) :
    Calls Try.prog 30 #[.string (bs (n :: t))] w fun e w' => e = .returned (.tuple #[.string (bs t), .string (bs []), .bool false]) ∧ ∃ k, w' = w.drewN k := by
  have := cut_any n t hl w
  unfold cutL at this
  rwa [if_neg h] at this
def strLen : Value → Nat
  | .string s => s.size
  | _ => 0
theorem whole_any (l : List UInt8) (hl : l.length < 9223372036854775807) (w : World) :
    Calls Try.prog 18 #[.string (bs l)] w fun e w' => e = .returned (.bool (whole l)) ∧ ∃ k, w' = w.drewN k := by
  obtain ⟨W, hW⟩ : ∃ W, whole l = W := ⟨_, rfl⟩
  rw [hW]
  have HW := Lib.hid hW
  clear hW
  go_enter Try.func18, Try.ntmps18
  go_wp2_with fail
  go_loopw [0] (fun s wr => ∃ (r : List UInt8) (k : Nat), s = .string (bs r) ∧ W = whole r ∧ r.length ≤ l.length ∧ wr = w.drewN k) (fun s _ => strLen s)
  case atStart => exact ⟨l, 0, rfl, HW.out.symm, Nat.le_refl _, rfl⟩
  case round =>
    obtain ⟨r, k, rfl, hr, hle, rfl⟩ := hrel
    cases r with
    | nil =>
      have e1 := empty_eq
      rw [whole_nil] at hr
      subst hr
      go_wp2_with fail
      go_ret
      exact ⟨rfl, k, rfl⟩
    | cons n t =>
      have e1 := cons_ne n t
      rw [List.length_cons] at hle
      rw [whole_cons] at hr
      by_cases h : n.toNat ≤ t.length
      · have c := fun w => cut_yes n t h (by omega) w
        rw [decide_eq_true h, Bool.true_and] at hr
        have HR := Lib.hid hr
        clear hr
        go_wp2_with fail
        refine (c _).mono ?_
        rintro e w' ⟨rfl, k2, rfl⟩
        go_wp2_with fail
        go_round
        case rel => exact ⟨t.drop n.toNat, k + k2, rfl, HR.out, by simp; omega, rfl⟩
        case measure => simp only [strLen, bs_size, List.length_drop, List.length_cons]; omega
      · have c := fun w => cut_not n t h (by omega) w
        rw [decide_eq_false h, Bool.false_and] at hr
        subst hr
        go_wp2_with fail
        refine (c _).mono ?_
        rintro e w' ⟨rfl, k2, rfl⟩
        go_wp2_with fail
        go_ret
        exact ⟨rfl, k + k2, rfl⟩

/-- strings in a slice -/
structure Strs (w : World) (A : Option Addr) (len : Nat) (f : Nat → List UInt8) : Prop where
  sz : ∀ i, (f i).length ≤ 9223372036854775807
  ln : len ≤ 9223372036854775807
  at_ : 0 < len → ∃ b off, A = some ⟨b, off, none⟩ ∧ b < w.heap.size ∧ ∀ i, i < len → w.cell? ⟨b, off + i, none⟩ = some (.string (bs (f i)))
theorem Strs.below {w w' : World} {B : Nat} {A : Option Addr} {len : Nat} {f : Nat → List UInt8} (h : Strs w A len f) (hb : Below B w w') (hB : w.heap.size ≤ B) : Strs w' A len f := by
  refine ⟨h.sz, h.ln, fun h0 => ?_⟩
  obtain ⟨b, off, e, h1, h2⟩ := h.at_ h0
  exact ⟨b, off, e, Nat.lt_of_lt_of_le h1 hb.size, fun i hi => (hb.cell (p := ⟨b, off + i, none⟩) (by exact Nat.lt_of_lt_of_le h1 hB)).trans (h2 i hi)⟩

/-- the sum of the sizes, as Go adds -/
def sizes (f : Nat → List UInt8) : Nat → Int
  | 0 => 0
  | k + 1 => wrap64 (sizes f k + (f k).length)
def greatB (f : Nat → List UInt8) (len : Nat) : Bool := decide (100 < len) || decide (5000 < sizes f len)
theorem sizes_bd (f : Nat → List UInt8) : ∀ k, -9223372036854775808 ≤ sizes f k ∧ sizes f k ≤ 9223372036854775807
  | 0 => by show (-9223372036854775808 : Int) ≤ 0 ∧ (0 : Int) ≤ 9223372036854775807; decide
  | k + 1 => by show _ ≤ wrap64 _ ∧ wrap64 _ ≤ _; unfold wrap64; omega
theorem great_any (w : World) (A : Option Addr) (len cap : Nat) (f : Nat → List UInt8) (h : Strs w A len f) :
    Calls Try.prog 12 #[.slice A len cap] w fun e w' => e = .returned (.bool (greatB f len)) ∧ ∃ k, w' = w.drewN k := by
  have hln := h.ln
  have HC := Lib.hid h.at_
  have HZ := Lib.hid h.sz
  obtain ⟨G, hG⟩ : ∃ G, greatB f len = G := ⟨_, rfl⟩
  rw [hG]
  have HG := Lib.hid hG
  clear h hG
  go_enter Try.func12, Try.ntmps12
  go_wp2_with fail
  go_loopw [3, 4] (fun n i wr => ∃ (k d : Nat) (S : Int), k ≤ len ∧ i = .int .i64 k ∧ n = .int .i64 S ∧ S = sizes f k ∧ wr = w.drewN d) (fun _ i _ => len - (intOf i).toNat)
  case atStart => exact ⟨0, 0, 0, by omega, rfl, rfl, rfl, rfl⟩
  case round =>
    obtain ⟨k, d, S, hk, rfl, rfl, hS, rfl⟩ := hrel
    by_cases hlt : k < len
    · obtain ⟨b, off, rfl, hbb, hcell⟩ := HC.out (by omega)
      have ck : w.cell? ⟨b, off + k, none⟩ = some (.string (bs (f k))) := hcell k hlt
      have hz := HZ.out k
      have bz : (bs (f k)).size = (f k).length := rfl
      have hnext : Hid (wrap64 (S + (f k).length) = sizes f (k + 1)) := Lib.hid (by rw [hS]; rfl)
      have sb := sizes_bd f k
      rw [← hS] at sb
      have s0 := sb.1
      have s1 := sb.2
      clear hcell hS sb
      generalize (f k).length = L at *
      obtain ⟨T, hT⟩ : ∃ T, wrap64 (S + L) = T := ⟨_, rfl⟩
      go_wp2_with fail
      go_round
      case rel => exact ⟨k + 1, d, _, by omega, by go_num, rfl, hnext.out, rfl⟩
      case measure => simp only [intOf]; omega
    · obtain rfl : k = len := by omega
      clear HC
      have sb := sizes_bd f k
      rw [← hS] at sb
      have s0 := sb.1
      have s1 := sb.2
      have hg := HG.out
      unfold greatB at hg
      rw [← hS] at hg
      clear hS sb HG
      by_cases h1 : 100 < k
      · rw [decide_eq_true h1, Bool.true_or] at hg
        subst hg
        go_wp2_with fail
        go_ret
        exact ⟨rfl, d, rfl⟩
      · have h3 : decide ((100 : Int) < (k : Int)) = false := decide_eq_false (by omega)
        rw [decide_eq_false h1, Bool.false_or] at hg
        by_cases h2 : 5000 < S
        · rw [decide_eq_true h2] at hg
          subst hg
          go_wp2_with fail
          go_ret
          exact ⟨rfl, d, rfl⟩
        · rw [decide_eq_false h2] at hg
          subst hg
          go_wp2_with fail
          go_ret
          exact ⟨rfl, d, rfl⟩
theorem same_any (w : World) (A B : Option Addr) (la lb ca cb : Nat) (f g : Nat → List UInt8) (h : Strs w A la f) (h' : Strs w B lb g) :
    Calls Try.prog 16 #[.slice A la ca, .slice B lb cb] w fun e w' => e = .returned (.bool (decide (la = lb ∧ ∀ i, i < la → f i = g i))) ∧ ∃ k, w' = w.drewN k := by
  have hln := h.ln
  have hln' := h'.ln
  have HA := Lib.hid h.at_
  have HB := Lib.hid h'.at_
  clear h h'
  by_cases hl : la = lb
  · subst hl
    obtain ⟨R, hR⟩ : ∃ R, decide (la = la ∧ ∀ i, i < la → f i = g i) = R := ⟨_, rfl⟩
    rw [hR]
    have HR := Lib.hid hR
    clear hR
    go_enter Try.func16, Try.ntmps16
    go_wp2_with fail
    go_loopw [5] (fun i wr => ∃ (k d : Nat), k ≤ la ∧ i = .int .i64 k ∧ (∀ j, j < k → f j = g j) ∧ wr = w.drewN d) (fun i _ => la - (intOf i).toNat)
    case atStart => exact ⟨0, 0, by omega, rfl, by omega, rfl⟩
    case round =>
      obtain ⟨k, d, hk, rfl, hS, rfl⟩ := hrel
      have HS := Lib.hid hS
      clear hS
      by_cases hlt : k < la
      · obtain ⟨b, off, rfl, hbb, hcell⟩ := HA.out (by omega)
        obtain ⟨b', off', rfl, hbb', hcell'⟩ := HB.out (by omega)
        have ck : w.cell? ⟨b, off + k, none⟩ = some (.string (bs (f k))) := hcell k hlt
        have ck' : w.cell? ⟨b', off' + k, none⟩ = some (.string (bs (g k))) := hcell' k hlt
        clear hcell hcell' HA HB
        by_cases he : f k = g k
        · have e1 : ((bs (f k)).toList == (bs (g k)).toList) = true := by rw [he]; simp
          have HE := Lib.hid he
          clear he
          go_wp2_with fail
          go_quiet (fail)
          go_wp2_with fail
          go_round
          case rel => exact ⟨k + 1, d + nq, by omega, by go_num, fun j hj => by
            rcases Nat.lt_succ_iff_lt_or_eq.1 hj with h | rfl
            · exact HS.out j h
            · exact HE.out, rfl⟩
          case measure => simp only [intOf]; omega
        · have e1 : ((bs (f k)).toList == (bs (g k)).toList) = false := by rw [bs_toList, bs_toList, beq_eq_false_iff_ne]; exact he
          have HE : R = false := by rw [← HR.out, decide_eq_false]; exact fun h => he (h.2 k hlt)
          subst HE
          clear he
          go_wp2_with fail
          go_quiet (fail)
          go_wp2_with fail
          go_ret
          exact ⟨rfl, d + nq, by first | rfl | exact drew2 _ _ _⟩
      · have HE : R = true := by rw [← HR.out, decide_eq_true_iff]; exact ⟨by first | exact trivial | rfl, fun i hi => HS.out i (by omega)⟩
        subst HE
        clear HA HB
        go_wp2_with fail
        go_ret
        exact ⟨rfl, _, rfl⟩
  · rw [decide_eq_false (fun h => hl h.1)]
    have n1 : ((la : Int) != (lb : Int)) = true := by rw [bne_iff_ne]; omega
    go_enter Try.func16, Try.ntmps16
    go_wp2_with fail
    go_ret
    exact ⟨rfl, 0, rfl⟩
end Go.Proofs.Ytccakpbgmgogeaa
