/- The walks of raw's reader. -/
import Derived.Test.YtccakpbgmgogeaaRawD
import Derived.Laws.BitsAllLaws
namespace Go.Proofs.Ytccakpbgmgogeaa
open Go.RowKit RawPlain

/-- what a reader has: its slice lies in a cell, the bytes elsewhere; both from a block on -/
structure Rd (w : World) (B p : Nat) (l : List UInt8) : Prop where
  ln : l.length ≤ 100000
  pB : B ≤ p
  pl : p < w.heap.size
  fz : w.frozen? ⟨p, 0, none⟩ = false
  at_ : ∃ (g : Nat) (off cap : Nat), B ≤ g ∧ g < w.heap.size ∧ g ≠ p ∧ l.length ≤ cap ∧ cap ≤ maxLen ∧ w.cell? ⟨p, 0, none⟩ = some (.slice (some ⟨g, off, none⟩) l.length cap) ∧ ∀ j, (h : j < l.length) → w.cell? ⟨g, off + j, none⟩ = some (BV l[j])
theorem rd_len {w : World} {B p : Nat} {l : List UInt8} (h : Rd w B p l) : ∃ a c, w.cell? ⟨p, 0, none⟩ = some (.slice a l.length c) := by
  obtain ⟨g, off, cap, h1, h2, h3, h4, h5, h6, h7⟩ := h.at_
  exact ⟨_, _, h6⟩
def chain : List PanicEntry := [{ v := .iface 55 (.agg #[]), recovered := false }]
theorem take_not (w : World) (B p n : Nat) (l : List UInt8) (hr : Rd w B p l) (hn : l.length < n) (_ : n ≤ 8) :
    Calls Try.prog 32 #[.pointer (some ⟨p, 0, none⟩), .int .i64 (n : Int)] w fun e w' => e = .panicked chain ∧ w = w' := by
  obtain ⟨hln, pB, pl, hf, g, off, cap, gB, hg, hgp, hlc, hcap, hc, _⟩ := hr
  go_enter Try.func32, Try.ntmps32
  go_wp2_with fail
  exact ⟨rfl, rfl, rfl⟩
theorem addr_ne {g p i j : Nat} (h : g ≠ p) : (⟨p, i, none⟩ : Addr) ≠ ⟨g, j, none⟩ := fun e => h (by injection e with e _ _; exact e.symm)
theorem rd_set {w : World} {B p g off off' n cap : Nat} {l : List UInt8} (hln : l.length ≤ 100000) (pB : B ≤ p) (pl : p < w.heap.size) (hf : w.frozen? ⟨p, 0, none⟩ = false) (gB : B ≤ g) (hg : g < w.heap.size) (hgp : g ≠ p) (hnl : n ≤ l.length) (hlc : l.length ≤ cap) (hcap : cap ≤ maxLen) (ho : n < l.length → off' = off + n)
    {old : Value} (hc : w.cell? ⟨p, 0, none⟩ = some old) (hcell : ∀ j, (h : j < l.length) → w.cell? ⟨g, off + j, none⟩ = some (BV l[j])) {m k : Nat} (hm : m = l.length - n) (hk : k = cap - n) :
    Rd (w.setCell ⟨p, 0, none⟩ (.slice (some ⟨g, off', none⟩) m k)) B p (l.drop n) := by
  have hd : (l.drop n).length = l.length - n := List.length_drop
  refine ⟨by omega, pB, by simpa using pl, by rw [World.frozen?_setCell]; exact hf, g, off', cap - n, gB, by simpa using hg, hgp, by omega, by unfold maxLen at hcap ⊢; omega, ?_, ?_⟩
  · rw [World.cell?_setCell_same _ _ _ hc, hd, hm, hk]
  · intro j hj
    rw [World.cell?_setCell_other _ _ _ _ (addr_ne hgp), ho (by omega), Nat.add_assoc, hcell (n + j) (by omega), List.getElem_drop]
theorem take_yes (w : World) (B p n : Nat) (l : List UInt8) (hr : Rd w B p l) (hn : n ≤ l.length) (hn2 : n ≤ 8) :
    Calls Try.prog 32 #[.pointer (some ⟨p, 0, none⟩), .int .i64 (n : Int)] w fun e w' => ∃ g off cap s, e = .returned (.slice (some ⟨g, off, none⟩) n cap) ∧ w' = w.setCell ⟨p, 0, none⟩ s ∧ Rd w' B p (l.drop n) ∧ g ≠ p ∧ (∀ j, (h : j < n) → w.cell? ⟨g, off + j, none⟩ = some (BV (l[j]'(by omega)))) := by
  obtain ⟨hln, pB, pl, hf, g, off, cap, gB, hg, hgp, hlc, hcap, hc, hcell⟩ := hr
  have HC := Lib.hid hcell
  have HM := Lib.hid hcap
  clear hcell
  unfold maxLen at hcap
  have hb : ∀ j, (h : j < n) → w.cell? ⟨g, off + j, none⟩ = some (BV (l[j]'(by omega))) := fun j h => HC.out j (by omega)
  have HB := Lib.hid hb
  clear hb
  by_cases hnc : cap = n
  · obtain rfl : n = l.length := by omega
    subst hnc
    go_enter Try.func32, Try.ntmps32
    go_wp2_with fail
    go_ret
    exact ⟨g, off, _, _, rfl, rfl, rd_set (off := off) hln pB pl hf gB hg hgp hn (Nat.le_refl _) HM.out (fun h => by omega) hc HC.out (by omega) (by omega), hgp, HB.out⟩
  · go_enter Try.func32, Try.ntmps32
    go_wp2_with fail
    go_ret
    exact ⟨g, off, _, _, rfl, rfl, rd_set hln pB pl hf gB hg hgp hn hlc HM.out (fun _ => rfl) hc HC.out rfl rfl, hgp, HB.out⟩
theorem number_not (w : World) (B p n : Nat) (l : List UInt8) (hr : Rd w B p l) (hn : l.length < n) (hn2 : n ≤ 8) :
    Calls Try.prog 31 #[.pointer (some ⟨p, 0, none⟩), .int .i64 (n : Int)] w fun e w' => e = .panicked chain ∧ w = w' := by
  have c := fun w hr => take_not w B p n l hr hn hn2
  have HR := Lib.hid hr
  clear hr
  go_enter Try.func31, Try.ntmps31
  go_wp2_with fail
  refine (c _ HR.out).mono ?_
  rintro e w' ⟨rfl, rfl⟩
  go_wp2_with fail
  exact ⟨rfl, rfl, rfl⟩
theorem number_yes (w : World) (B p n : Nat) (l : List UInt8) (hr : Rd w B p l) (hn : n ≤ l.length) (hn2 : n ≤ 8) :
    Calls Try.prog 31 #[.pointer (some ⟨p, 0, none⟩), .int .i64 (n : Int)] w fun e w' => e = .returned (.int .u64 (num (l.take n) : Int)) ∧ Rd w' B p (l.drop n) ∧ ∃ s, w' = w.setCell ⟨p, 0, none⟩ s := by
  have c := fun w hr => take_yes w B p n l hr hn hn2
  have HR := Lib.hid hr
  clear hr
  go_enter Try.func31, Try.ntmps31
  go_wp2_with fail
  refine (c _ HR.out).mono ?_
  rintro e w' ⟨g, off, cap, s, rfl, hw', hrd, hgp, hcell⟩
  have hcell' : ∀ j, (h : j < n) → w'.cell? ⟨g, off + j, none⟩ = some (BV (l[j]'(by omega))) := fun j h => by rw [hw', World.cell?_setCell_other _ _ _ _ (addr_ne hgp)]; exact hcell j h
  have HC := Lib.hid hcell'
  have HW := Lib.hid hw'
  have HD := Lib.hid hrd
  clear hcell hcell' hw' hrd
  go_wp2_with fail
  go_loop [4, 11] (fun N i => ∃ k : Nat, k ≤ n ∧ i = .int .i64 k ∧ N = .int .u64 (num (l.take k) : Int)) (fun _ i => n - (intOf i).toNat)
  case atStart => exact ⟨0, by omega, rfl, rfl⟩
  case round =>
    obtain ⟨k, hk, rfl, rfl⟩ := hrel
    by_cases hlt : k < n
    · have ck := HC.out k hlt
      unfold BV at ck
      have hl : k < l.length := by omega
      have hs : num (l.take (k + 1)) = 256 * num (l.take k) + (l[k]).toNat := by
        rw [List.take_succ_eq_append_getElem hl, num_snoc]
      have hb := num_lt (l.take k)
      have hb2 : (256 : Nat) ^ (l.take k).length ≤ 256 ^ 7 := Nat.pow_le_pow_right (by omega) (by simp; omega)
      have hb3 : num (l.take k) < 72057594037927936 := Nat.lt_of_lt_of_le hb hb2
      have hc := (l[k]).toNat_lt
      have hor : bits .or .u64 ((num (l.take k) : Int) * 256) ((l[k]).toNat : Int) = (num (l.take (k + 1)) : Int) := by
        have h1 := u64_or_nat (num (l.take k) * 256) (l[k]).toNat (by omega) (by omega)
        rw [Int.natCast_mul] at h1
        rw [show ((num (l.take k) : Int) * 256) = (num (l.take k) : Int) * ((256 : Nat) : Int) from rfl, h1, hs]
        have h2 := Nat.shiftLeft_add_eq_or_of_lt (i := 8) (b := (l[k]).toNat) hc (num (l.take k))
        rw [Nat.shiftLeft_eq] at h2
        rw [show num (l.take k) * 256 = num (l.take k) * 2 ^ 8 from rfl, ← h2]
        congr 1
        omega
      clear hb hb2 hs
      go_wp2_with fail
      go_round
      case rel => exact ⟨k + 1, by omega, by go_num, rfl⟩
      case measure => simp only [intOf]; omega
    · obtain rfl : k = n := by omega
      go_wp2_with fail
      go_ret
      exact ⟨rfl, HD.out, _, HW.out⟩

/-- one, four, eight -/
theorem one_not (w : World) (B p : Nat) (l : List UInt8) (hr : Rd w B p l) (hn : l.length < 1) :
    Calls Try.prog 25 #[.pointer (some ⟨p, 0, none⟩)] w fun e w' => e = .panicked chain ∧ w = w' := by
  have c := number_not w B p 1 l hr hn (by omega)
  clear hr
  go_enter Try.func25, Try.ntmps25
  go_wp2_with fail
  refine c.mono ?_
  rintro e w' ⟨rfl, rfl⟩
  go_wp2_with fail
  exact ⟨rfl, rfl, rfl⟩
theorem eight_not (w : World) (B p : Nat) (l : List UInt8) (hr : Rd w B p l) (hn : l.length < 8) :
    Calls Try.prog 26 #[.pointer (some ⟨p, 0, none⟩)] w fun e w' => e = .panicked chain ∧ w = w' := by
  have c := number_not w B p 8 l hr hn (by omega)
  clear hr
  go_enter Try.func26, Try.ntmps26
  go_wp2_with fail
  refine c.mono ?_
  rintro e w' ⟨rfl, rfl⟩
  go_wp2_with fail
  exact ⟨rfl, rfl, rfl⟩
theorem four_not (w : World) (B p : Nat) (l : List UInt8) (hr : Rd w B p l) (hn : l.length < 4) :
    Calls Try.prog 27 #[.pointer (some ⟨p, 0, none⟩)] w fun e w' => e = .panicked chain ∧ w = w' := by
  have c := number_not w B p 4 l hr hn (by omega)
  clear hr
  go_enter Try.func27, Try.ntmps27
  go_wp2_with fail
  refine c.mono ?_
  rintro e w' ⟨rfl, rfl⟩
  go_wp2_with fail
  exact ⟨rfl, rfl, rfl⟩
theorem one_yes (w : World) (B p : Nat) (c : UInt8) (l : List UInt8) (hr : Rd w B p (c :: l)) :
    Calls Try.prog 25 #[.pointer (some ⟨p, 0, none⟩)] w fun e w' => e = .returned (.int .u8 (c.toNat : Int)) ∧ Rd w' B p l ∧ ∃ s, w' = w.setCell ⟨p, 0, none⟩ s := by
  have cc := number_yes w B p 1 (c :: l) hr (by simp) (by omega)
  have e0 : num ((c :: l).take 1) = c.toNat := by show 256 * 0 + c.toNat = _; omega
  rw [e0] at cc
  have hc := c.toNat_lt
  clear hr e0
  go_enter Try.func25, Try.ntmps25
  go_wp2_with fail
  refine cc.mono ?_
  rintro e w' ⟨rfl, hrd, s, hw⟩
  have HR := Lib.hid hrd
  have HW := Lib.hid hw
  clear hrd hw
  go_wp2_with fail
  go_ret
  exact ⟨by go_num, HR.out, _, HW.out⟩
theorem eight_yes (w : World) (B p : Nat) (l : List UInt8) (hr : Rd w B p l) (hn : 8 ≤ l.length) :
    Calls Try.prog 26 #[.pointer (some ⟨p, 0, none⟩)] w fun e w' => e = .returned (.int .u64 (num (l.take 8) : Int)) ∧ Rd w' B p (l.drop 8) ∧ ∃ s, w' = w.setCell ⟨p, 0, none⟩ s := by
  have cc := number_yes w B p 8 l hr hn (by omega)
  clear hr
  go_enter Try.func26, Try.ntmps26
  go_wp2_with fail
  refine cc.mono ?_
  rintro e w' ⟨rfl, hrd, s, hw⟩
  have HR := Lib.hid hrd
  have HW := Lib.hid hw
  clear hrd hw
  go_wp2_with fail
  go_ret
  exact ⟨rfl, HR.out, _, HW.out⟩
theorem four_yes (w : World) (B p : Nat) (l : List UInt8) (hr : Rd w B p l) (hn : 4 ≤ l.length) :
    Calls Try.prog 27 #[.pointer (some ⟨p, 0, none⟩)] w fun e w' => e = .returned (.int .i64 (sg (num (l.take 4)))) ∧ Rd w' B p (l.drop 4) ∧ ∃ s, w' = w.setCell ⟨p, 0, none⟩ s := by
  have cc := number_yes w B p 4 l hr hn (by omega)
  have hb := num_lt (l.take 4)
  rw [show (l.take 4).length = 4 from by simp; omega] at hb
  obtain ⟨N, hN⟩ : ∃ N, num (l.take 4) = N := ⟨_, rfl⟩
  rw [hN] at cc hb ⊢
  clear hr hN
  go_enter Try.func27, Try.ntmps27
  go_wp2_with fail
  refine cc.mono ?_
  rintro e w' ⟨rfl, hrd, s, hw⟩
  have HR := Lib.hid hrd
  have HW := Lib.hid hw
  clear hrd hw
  go_wp2_with fail
  go_ret
  refine ⟨ret_int ?_, HR.out, _, HW.out⟩
  unfold wrap64 wrap32 sg
  split <;> omega
end Go.Proofs.Ytccakpbgmgogeaa
