/- The walk of TintPlays. -/
import Derived.Test.YtcckppijabajdaaTintL
namespace Go.Proofs.Ytcckppijabajdaa
open Go.RowKit

theorem tn_not_u8 {w : World} {p g : Nat} {cs : List Int} {m : Int} (hT : Tn w p g cs m) {b i : Nat} {x : Int} (h : w.cell? ⟨b, i, none⟩ = some (.int .u8 x)) : b ≠ p ∧ b ≠ g := by
  obtain ⟨f, last, h1, h2, _⟩ := hT
  constructor
  · rintro rfl
    rw [cellOf h1] at h
    match i, h with
    | 0, h => simp at h
    | 1, h => simp at h
    | _ + 2, h => simp at h
  · rintro rfl
    rw [cellOf h2] at h
    simp at h
theorem Qr.only {w w' : World} {p g : Nat} {v : Value} {cs cs' : List Int} {m : Int} (h : Qr w v cs) (hT : Tn w p g cs' m) (ho : Only w w' p g) : Qr w' v cs := by
  obtain ⟨gq, c, rfl, hg, hc, hn⟩ := h
  refine ⟨gq, c, rfl, Nat.lt_of_lt_of_le hg ho.size, fun i hi => ?_, hn⟩
  have h1 := hc i hi
  obtain ⟨n1, n2⟩ := tn_not_u8 hT h1
  exact (World.cell?_of_block (w := w) (ho.block gq hg n1 n2)).trans h1
theorem Qr.alloc {w : World} {v : Value} {cs : List Int} (h : Qr w v cs) (o : Obj) : Qr (w.alloc o) v cs := h.below ((Below.refl _ _).alloc (Nat.le_refl _) _)
theorem Tn.alloc {w : World} {p g : Nat} {cs : List Int} {m : Int} (h : Tn w p g cs m) (o : Obj) : Tn (w.alloc o) p g cs m :=
  h.below ((Below.refl _ _).alloc (Nat.le_refl _) o) h.lt.1 h.lt.2
theorem Tn.more {w : World} {p g : Nat} {cs : List Int} {m m' : Int} (h : Tn w p g cs m) (hm : m ≤ m') (hm' : m' ≤ 1000000) : Tn w p g cs m' := by
  obtain ⟨f, last, h1, h2, h3, h4, h5, h6, h7, h8⟩ := h
  exact ⟨f, last, h1, h2, h3, h4, h5, by omega, hm', h8⟩
theorem Only.cell {w w' : World} {p g : Nat} (h : Only w w' p g) {b : Nat} (hb : b < w.heap.size) (h1 : b ≠ p) (h2 : b ≠ g) (i : Nat) : w'.cell? ⟨b, i, none⟩ = w.cell? ⟨b, i, none⟩ :=
  World.cell?_of_block (w := w) (h.block b hb h1 h2)

/-- a row of zeros, made -/
theorem qr_made (w : World) (n : Nat) (hn : n ≤ 65536) : Qr (w.alloc (.cells (madeCells #[.int .u8 0] n) 5)) (.slice (some ⟨w.heap.size, 0, none⟩) n n) (List.replicate n 0) := by
  refine ⟨w.heap.size, n, by rw [List.length_replicate], by simp, fun i hi => ?_, by simpa using hn⟩
  rw [List.length_replicate] at hi
  rw [World.cell?_alloc_at _ _ _ _ rfl, madeRow]
  simp [hi]

set_option maxRecDepth 100000 in
set_option maxHeartbeats 1600000 in
/-- many is no number of slots -/
theorem plays_out (w : World) (many c : Int) (A : Option Addr) (len cap : Nat) (hm : many < 0 ∨ 65536 < many) :
    Calls Try.prog 3 #[.int .i64 many, .slice A len cap, .int .u8 c] w fun e w' => e = .returned (.bool true) ∧ Below w.heap.size w w' := by
  have c0 := tNew_out w many hm
  have c2 := awake_any w
  rcases hm with hm | hm
  all_goals
    go_enter Try.func3, Try.ntmps3
    go_wp2_with (first | (go_at_call 7; refine c0.mono ?_; rintro e w' ⟨rfl, rfl⟩) | (go_at_call 8; refine c2.mono ?_; rintro e w3 ⟨rfl, b3⟩))
    go_ret
    exact ⟨rfl, b3⟩
set_option maxRecDepth 100000 in
/-- many is only told of -/
theorem plays_big (w : World) (n : Nat) (c : Int) (A : Option Addr) (len cap : Nat) (hm : 300 < n) (hm' : n ≤ 65536) :
    Calls Try.prog 3 #[.int .i64 n, .slice A len cap, .int .u8 c] w fun e w' => e = .returned (.bool true) ∧ Below w.heap.size w w' := by
  have c0 := tNew_in w n 1 hm' (by decide) (by decide)
  go_enter Try.func3, Try.ntmps3
  go_wp2_with fail
  refine c0.mono ?_
  rintro e w1 ⟨p, g, rfl, h1, b1, hp, hg⟩
  have c1 := tCount_any w1 p g _ _ 0 h1
  rw [cnt_white] at c1
  have c2 := awake_any w1
  clear c0 h1
  go_wp2_with (first | (go_at_call 9; refine c1.mono ?_; rintro e w' ⟨rfl, rfl⟩) | (go_at_call 8; refine c2.mono ?_; rintro e w3 ⟨rfl, b3⟩))
  go_ret
  exact ⟨rfl, b1.trans (b3.mono b1.size)⟩
end Go.Proofs.Ytcckppijabajdaa
