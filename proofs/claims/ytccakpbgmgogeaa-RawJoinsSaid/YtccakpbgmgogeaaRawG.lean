/- The walk of raw's Get. -/
import Derived.Test.YtccakpbgmgogeaaRawF
namespace Go.Proofs.Ytccakpbgmgogeaa
open Go.RowKit RawPlain

/-- what Get gives -/
def getE (l : List UInt8) : E := (getL l).getD E.zero
def getN (l : List UInt8) : Int := if (getL l).isSome then 0 else 250
def GetPost (l : List UInt8) (w : World) (e : Ending) (w' : World) : Prop := e = .returned (.tuple #[.agg (ev (getE l)).toArray, .int .i64 (getN l)]) ∧ Below w.heap.size w w'
theorem gs_first (w : World) (l : List UInt8) (hl : l.length ≤ 100000) (n c : Nat) (hn : (bs l).size = n) (hc : c = grownCap ((w.alloc (.cells zeros 26)).alloc (.cells #[.int .i64 0] 28)) (bs l).size 0 5) :
    GS w (((((w.alloc (.cells zeros 26)).alloc (.cells #[.int .i64 0] 28)).alloc (.cells (bytesRow (bs l) c) 5 ((bytesRow (bs l) c).size, (bytesRow (bs l) c).size + 1))).alloc (.cells #[.slice (some ⟨w.heap.size + 1 + 1, 0, none⟩) n c] 59)).drew) E.zero (w.heap.size + 1 + 1 + 1) l := by
  have hnl : n = l.length := by rw [← hn]; rfl
  have c1 : l.length ≤ c := by rw [hc]; exact grownCap_ge _ _ _ _
  have c2 : c ≤ maxLen := by rw [hc]; exact grownCap_le_maxLen _ _ _ _ (by show l.length ≤ maxLen; unfold maxLen; omega)
  obtain ⟨W2, hW2⟩ : ∃ W2, (w.alloc (.cells zeros 26)).alloc (.cells #[.int .i64 0] 28) = W2 := ⟨_, rfl⟩
  have s2 : W2.heap.size = w.heap.size + 2 := by rw [← hW2]; simp
  have x2 : W2.heap[w.heap.size]? = some (.cells zeros 26 (0, 0)) := by rw [← hW2]; exact heap_alloc_old (heap_alloc_new w _) _
  have e2 : W2.heap[w.heap.size + 1]? = some (.cells #[.int .i64 0] 28 (0, 0)) := by rw [← hW2, show w.heap.size + 1 = (w.alloc (.cells zeros 26)).heap.size from by simp]; exact heap_alloc_new _ _
  have b2 : Below w.heap.size w W2 := by rw [← hW2]; exact ((Below.refl _ _).alloc (Nat.le_refl _) _).alloc (by simp) _
  rw [hW2]
  clear hW2 hc
  obtain ⟨W3, hW3⟩ : ∃ W3, W2.alloc (.cells (bytesRow (bs l) c) 5 ((bytesRow (bs l) c).size, (bytesRow (bs l) c).size + 1)) = W3 := ⟨_, rfl⟩
  have s3 : W3.heap.size = w.heap.size + 3 := by rw [← hW3]; simp [s2]
  have g3 : ∀ j, (h : j < l.length) → W3.cell? ⟨w.heap.size + 2, j, none⟩ = some (BV l[j]) := by
    intro j hj
    rw [← hW3, ← s2, World.cell?_alloc_mark]
    exact bytesRow_at (bs l) c j hj
  have x3 := heap_alloc_old x2 (.cells (bytesRow (bs l) c) 5 ((bytesRow (bs l) c).size, (bytesRow (bs l) c).size + 1))
  have e3 := heap_alloc_old e2 (.cells (bytesRow (bs l) c) 5 ((bytesRow (bs l) c).size, (bytesRow (bs l) c).size + 1))
  have b3 := b2.alloc (by omega) (.cells (bytesRow (bs l) c) 5 ((bytesRow (bs l) c).size, (bytesRow (bs l) c).size + 1))
  rw [hW3] at x3 e3 b3 ⊢
  have p4 := heap_alloc_new W3 (.cells #[.slice (some ⟨w.heap.size + 1 + 1, 0, none⟩) n c] 59)
  rw [s3] at p4
  refine ⟨heap_alloc_old x3 _, heap_alloc_old e3 _, ⟨hl, by omega, ?_, frozen_row p4 0, w.heap.size + 2, 0, c, by omega, ?_, by omega, c1, c2, ?_, fun j hj => ?_⟩, (b3.alloc (by omega) _).drew⟩
  · show _ < (W3.alloc _).heap.size; simp; omega
  · show _ < (W3.alloc _).heap.size; simp; omega
  · exact (cell_of_row _ _ 0 _ _ _ p4).trans (by rw [hnl]; rfl)
  · show (W3.alloc _).cell? _ = _
    rw [Nat.zero_add, World.cell?_alloc_past _ _ _ (by omega)]
    exact g3 j hj
theorem info26' : (Try.prog.info? 26).map (·.size) = some 9 := by kernel_rfl
theorem results_get (tmps : Array Value) (w : World) (H : Nat) (C : Array Value) (v : Int) (h2 : tmps.getD 2 undef = .pointer (some ⟨H, 0, none⟩)) (h3 : tmps.getD 3 undef = .pointer (some ⟨H + 1, 0, none⟩)) (hC : C.size = 9)
    (hx : w.heap[H]? = some (.cells C 26 (0, 0))) (he : w.heap[H + 1]? = some (.cells #[.int .i64 v] 28 (0, 0))) :
    (results Try.f10 tmps).run Try.prog w = .ok (.tuple #[.agg C, .int .i64 v]) w := by
  have h2' : tmps[2]?.getD undef = .pointer (some ⟨H, 0, none⟩) := by simpa using h2
  have h3' : tmps[3]?.getD undef = .pointer (some ⟨H + 1, 0, none⟩) := by simpa using h3
  have l1 := run_loadVar_row (P := Try.prog) w H 26 26 C (0, 0) _ hx Try.underlying26 rfl (by rw [hC]; exact info26')
  have c2 : w.cell? ⟨H + 1, 0, none⟩ = some (.int .i64 v) := cell_of_row _ _ 0 _ _ _ he
  have l2 : (loadVar 28 ⟨H + 1, 0, none⟩).run Try.prog w = .ok (.int .i64 v) w := by simp [go_sem, c2]
  simp [results, Try.results10, h2', h3', asAddr, l1, l2]
theorem get_none_E {l : List UInt8} (h : getL l = none) : getE l = E.zero ∧ getN l = 250 := by unfold getE getN; rw [h]; exact ⟨rfl, rfl⟩
theorem get_some_E {l : List UInt8} {x : E} (h : getL l = some x) : getE l = x ∧ getN l = 0 := by unfold getE getN; rw [h]; exact ⟨rfl, rfl⟩
theorem door_panic {w0 w : World} {x : E} {p : Nat} {r l : List UInt8} (g : GS w0 w x p r) (h : getL l = none) (tmps : Array Value) (h2 : tmps.getD 2 undef = .pointer (some ⟨w0.heap.size, 0, none⟩)) (h3 : tmps.getD 3 undef = .pointer (some ⟨w0.heap.size + 1, 0, none⟩)) :
    Leaves Try.prog Try.f10 tmps (GetPost l w0) [{ target := .fn (.func 24) #[.pointer (some ⟨w0.heap.size, 0, none⟩), .pointer (some ⟨w0.heap.size + 1, 0, none⟩)], args := #[] }] (.panicking chain) w := by
  refine leaves_cons (f := 24) (args := #[.pointer (some ⟨w0.heap.size, 0, none⟩), .pointer (some ⟨w0.heap.size + 1, 0, none⟩)]) (by simp) (by simp [go_sem]) ?_
  refine (catch_panicking w0.heap.size (w0.heap.size + 1) w _ _ g.hx rfl g.he (by omega)).mono ?_
  rintro e u' w'' ⟨rfl, rfl, hx, he, _, hb⟩
  refine ⟨_, results_get tmps w'' _ _ _ h2 h3 rfl hx he, ?_, g.bl.trans (hb _ (Nat.le_refl _) (by omega))⟩
  rw [(get_none_E h).1, (get_none_E h).2]; rfl
theorem door_ret {w0 w : World} {l : List UInt8} (hx : w.heap[w0.heap.size]? = some (.cells (ev (getE l)).toArray 26 (0, 0))) (he : w.heap[w0.heap.size + 1]? = some (.cells #[.int .i64 (getN l)] 28 (0, 0))) (hb : Below w0.heap.size w0 w) (tmps : Array Value) (h2 : tmps.getD 2 undef = .pointer (some ⟨w0.heap.size, 0, none⟩)) (h3 : tmps.getD 3 undef = .pointer (some ⟨w0.heap.size + 1, 0, none⟩)) :
    Leaves Try.prog Try.f10 tmps (GetPost l w0) [{ target := .fn (.func 24) #[.pointer (some ⟨w0.heap.size, 0, none⟩), .pointer (some ⟨w0.heap.size + 1, 0, none⟩)], args := #[] }] .returning w := by
  refine leaves_cons (f := 24) (args := #[.pointer (some ⟨w0.heap.size, 0, none⟩), .pointer (some ⟨w0.heap.size + 1, 0, none⟩)]) (by simp) (by simp [go_sem]) ?_
  refine (catch_idle w0.heap.size (w0.heap.size + 1) w).mono ?_
  rintro e u' w'' ⟨rfl, rfl, rfl⟩
  exact ⟨_, results_get tmps w _ _ _ h2 h3 rfl hx he, rfl, hb⟩
theorem get_none1 {k : UInt8} {r : List UInt8} (hk : k.toNat = 1) (h : (k :: r).length ≠ 27) : getL (k :: r) = none := by
  unfold getL
  rw [if_neg, if_neg (fun x => h x.1)]
  rintro ⟨_, x⟩
  have : k = 2 := x
  subst this
  exact absurd hk (by decide)
theorem get_none2 {k : UInt8} {r : List UInt8} (hk : k.toNat = 2) (h : (k :: r).length ≠ 3) : getL (k :: r) = none := by
  unfold getL
  rw [if_neg (fun x => h x.1), if_neg]
  rintro ⟨_, x⟩
  have : k = 1 := x
  subst this
  exact absurd hk (by decide)
theorem get_none3 {k : UInt8} {r : List UInt8} (h1 : k.toNat ≠ 1) (h2 : k.toNat ≠ 2) : getL (k :: r) = none := by
  unfold getL
  rw [if_neg, if_neg]
  · rintro ⟨_, x⟩
    have : k = 1 := x
    subst this
    exact h1 rfl
  · rintro ⟨_, x⟩
    have : k = 2 := x
    subst this
    exact h2 rfl
theorem get_two {k a b : UInt8} (hk : k.toNat = 2) : getL [k, a, b] = some ⟨2, 0, 0, 0, 0, 0, 0, a.toNat, b.toNat⟩ := by
  have : k = 2 := by apply UInt8.toNat.inj; rw [hk]; rfl
  subst this
  unfold getL
  rw [if_pos ⟨rfl, rfl⟩]; rfl
theorem get_one {k t c : UInt8} {r : List UInt8} (hk : k.toNat = 1) (hr : r.length = 24) : getL (k :: t :: c :: r) = some ⟨1, t.toNat, c.toNat, num (r.take 8), sg (num ((r.drop 8).take 4)), sg (num (((r.drop 8).drop 4).take 4)), num ((((r.drop 8).drop 4).drop 4).take 8), 0, 0⟩ := by
  have : k = 1 := by apply UInt8.toNat.inj; rw [hk]; rfl
  subst this
  unfold getL
  rw [if_neg (fun x => by have h1 := x.1; rw [List.length_cons, List.length_cons, List.length_cons, hr] at h1; omega), if_pos ⟨by rw [List.length_cons, List.length_cons, List.length_cons, hr], rfl⟩]
  have e1 : (r.drop 8).drop 4 = r.drop 12 := by rw [List.drop_drop]
  have e2 : (r.drop 12).drop 4 = r.drop 16 := by rw [List.drop_drop]
  rw [e1, e2, List.take_of_length_le (i := 8) (l := r.drop 16) (by rw [List.length_drop]; omega)]
  rfl
theorem ev_one (x : E) : (ev x).toArray.all (·.oneCell') = true := by
  rw [Array.all_eq_true_iff_forall_mem]
  intro v hv
  simp [ev] at hv
  rcases hv with rfl | rfl | rfl | rfl | rfl | rfl | rfl | rfl | rfl <;> rfl
set_option maxHeartbeats 1000000 in
theorem get_any (l : List UInt8) (hl : l.length ≤ 100000) (w : World) :
    Calls Try.prog 10 #[.string (bs l)] w (GetPost l w) := by
  have hmf : ∀ (fn : Fn) (first cap : Array Value) (w : World), (Instr.makeFunc fn first cap).run Try.prog w = .ok (.func fn first cap) w := fun _ _ _ _ => rfl
  have hcv : ∀ w, ∃ c, c = grownCap w (bs l).size 0 5 ∧ (convert 9 38 (.string (bs l))).run Try.prog w = .ok (.slice (some ⟨w.heap.size, 0, none⟩) (bs l).size c)
      (w.drew.alloc (.cells (bytesRow (bs l) c) 5 ((bytesRow (bs l) c).size, (bytesRow (bs l) c).size + 1))) := fun w => ⟨_, rfl, run_bytes_of_string w 9 38 5 (bs l) Try.underlying9 Try.underlying38 Try.underlying5⟩
  obtain ⟨c, hc, hcv⟩ := hcv ((w.alloc (.cells zeros 26)).alloc (.cells #[.int .i64 0] 28))
  have HC := Lib.hid hc
  obtain ⟨n, hn⟩ : ∃ n, (bs l).size = n := ⟨_, rfl⟩
  rw [hn] at hcv
  have HN := Lib.hid hn
  unfold zeros at hcv
  clear hc hn
  have HL := Lib.hid hl
  clear hl
  go_enter_defers Try.func10, Try.ntmps10
  go_wp2_with fail
  clear hcv hmf
  have G := Lib.hid (gs_first w l HL.out n c HN.out HC.out)
  clear HN HC HL
  rcases l with _ | ⟨k, r⟩
  · refine (one_not _ _ _ _ G.out.rd (by simp)).mono ?_
    rintro e w' ⟨rfl, rfl⟩
    go_wp2_with fail
    exact door_panic G.out (by unfold getL; rfl) _ rfl rfl
  obtain ⟨K, hK⟩ : ∃ K : Nat, k.toNat = K := ⟨_, rfl⟩
  have HK := Lib.hid hK
  have c1 := one_yes _ _ _ k r G.out.rd
  rw [hK] at c1
  clear hK
  have hK0 : K < 256 := by rw [← HK.out]; exact k.toNat_lt
  refine (c1).mono ?_
  rintro e w1 ⟨rfl, hr, s, hw⟩
  have G' := Lib.hid (G.out.call hr hw)
  clear hr hw s G
  clear c1
  have cx0 : (w1).cell? ⟨w.heap.size, 0, none⟩ = some (.int .u8 0) := G'.out.cell 0
  have fx0 := G'.out.froz 0
  have G2 : Hid (GS w ((w1).setCell ⟨w.heap.size, 0, none⟩ (.int .u8 (K : Int))) ⟨K, 0, 0, 0, 0, 0, 0, 0, 0⟩ (w.heap.size + 1 + 1 + 1) _) := Lib.hid (G'.out.store rfl)
  clear G'
  by_cases h1 : K = 1
  · subst h1
    go_wp2_with fail
    clear cx0 fx0
    rcases r with _ | ⟨t, r⟩
    · refine (one_not _ _ _ _ G2.out.rd (by simp)).mono ?_
      rintro e w' ⟨rfl, rfl⟩
      go_wp2_with fail
      exact door_panic G2.out (get_none1 HK.out (by simp)) _ rfl rfl
    have ht := t.toNat_lt
    refine (one_yes _ _ _ t r G2.out.rd).mono ?_
    rintro e w2 ⟨rfl, hr, s, hw⟩
    have G2' := Lib.hid (G2.out.call hr hw)
    clear hr hw s G2
    have cx1 : (w2).cell? ⟨w.heap.size, 1, none⟩ = some (.int .i64 0) := G2'.out.cell 1
    have fx1 := G2'.out.froz 1
    have G3 : Hid (GS w ((w2).setCell ⟨w.heap.size, 1, none⟩ (.int .i64 (t.toNat : Int))) ⟨(1 : Nat), t.toNat, 0, 0, 0, 0, 0, 0, 0⟩ (w.heap.size + 1 + 1 + 1) _) := Lib.hid (G2'.out.store rfl)
    clear G2'
    go_wp2_with fail
    clear cx1 fx1
    rcases r with _ | ⟨cc, r⟩
    · refine (one_not _ _ _ _ G3.out.rd (by simp)).mono ?_
      rintro e w' ⟨rfl, rfl⟩
      go_wp2_with fail
      exact door_panic G3.out (get_none1 HK.out (by simp)) _ rfl rfl
    have hcc := cc.toNat_lt
    refine (one_yes _ _ _ cc r G3.out.rd).mono ?_
    rintro e w3 ⟨rfl, hr, s, hw⟩
    have G3' := Lib.hid (G3.out.call hr hw)
    clear hr hw s G3
    go_wp2_with fail
    by_cases hAr : r.length < 8
    · refine (eight_not _ _ _ _ G3'.out.rd hAr).mono ?_
      rintro e w' ⟨rfl, rfl⟩
      go_wp2_with fail
      exact door_panic G3'.out (get_none1 HK.out (by simp; omega)) _ rfl rfl
    obtain ⟨r8, hr8⟩ : ∃ x, r.drop 8 = x := ⟨_, rfl⟩
    obtain ⟨H, hH⟩ : ∃ x, (num (r.take 8) : Int) = x := ⟨_, rfl⟩
    have dr8 : r8.length = r.length - 8 := by rw [← hr8]; exact List.length_drop
    have cr8 := eight_yes _ _ _ r G3'.out.rd (by omega)
    rw [hr8, hH] at cr8
    have Hr8 := Lib.hid hr8
    have HH := Lib.hid hH
    clear hr8 hH
    refine (cr8).mono ?_
    rintro e w4 ⟨rfl, hr, s, hw⟩
    have G3'' := Lib.hid (G3'.out.call hr hw)
    clear hr hw s G3'
    clear cr8
    have cx2 : (w4).cell? ⟨w.heap.size, 2, none⟩ = some (.int .u8 0) := G3''.out.cell 2
    have fx2 := G3''.out.froz 2
    have G4 : Hid (GS w ((w4).setCell ⟨w.heap.size, 2, none⟩ (.int .u8 (cc.toNat : Int))) ⟨(1 : Nat), t.toNat, cc.toNat, 0, 0, 0, 0, 0, 0⟩ (w.heap.size + 1 + 1 + 1) _) := Lib.hid (G3''.out.store rfl)
    have cx3 : (w4.setCell ⟨w.heap.size, 2, none⟩ (.int .u8 (cc.toNat : Int))).cell? ⟨w.heap.size, 3, none⟩ = some (.int .u64 0) := G4.out.cell 3
    have fx3 := G4.out.froz 3
    have G5 : Hid (GS w ((w4.setCell ⟨w.heap.size, 2, none⟩ (.int .u8 (cc.toNat : Int))).setCell ⟨w.heap.size, 3, none⟩ (.int .u64 H)) ⟨(1 : Nat), t.toNat, cc.toNat, H, 0, 0, 0, 0, 0⟩ (w.heap.size + 1 + 1 + 1) _) := Lib.hid (G4.out.store rfl)
    clear G3'' G4
    go_wp2_with fail
    clear cx2 fx2 cx3 fx3
    by_cases hAr8 : r8.length < 4
    · refine (four_not _ _ _ _ G5.out.rd hAr8).mono ?_
      rintro e w' ⟨rfl, rfl⟩
      go_wp2_with fail
      exact door_panic G5.out (get_none1 HK.out (by simp; omega)) _ rfl rfl
    obtain ⟨r12, hr12⟩ : ∃ x, r8.drop 4 = x := ⟨_, rfl⟩
    obtain ⟨A, hA⟩ : ∃ x, sg (num (r8.take 4)) = x := ⟨_, rfl⟩
    have dr12 : r12.length = r8.length - 4 := by rw [← hr12]; exact List.length_drop
    have cr12 := four_yes _ _ _ r8 G5.out.rd (by omega)
    rw [hr12, hA] at cr12
    have Hr12 := Lib.hid hr12
    have HA := Lib.hid hA
    clear hr12 hA
    refine (cr12).mono ?_
    rintro e w5 ⟨rfl, hr, s, hw⟩
    have G5' := Lib.hid (G5.out.call hr hw)
    clear hr hw s G5
    clear cr12
    go_wp2_with fail
    by_cases hAr12 : r12.length < 4
    · refine (four_not _ _ _ _ G5'.out.rd hAr12).mono ?_
      rintro e w' ⟨rfl, rfl⟩
      go_wp2_with fail
      exact door_panic G5'.out (get_none1 HK.out (by simp; omega)) _ rfl rfl
    obtain ⟨r16, hr16⟩ : ∃ x, r12.drop 4 = x := ⟨_, rfl⟩
    obtain ⟨B, hB⟩ : ∃ x, sg (num (r12.take 4)) = x := ⟨_, rfl⟩
    have dr16 : r16.length = r12.length - 4 := by rw [← hr16]; exact List.length_drop
    have cr16 := four_yes _ _ _ r12 G5'.out.rd (by omega)
    rw [hr16, hB] at cr16
    have Hr16 := Lib.hid hr16
    have HB := Lib.hid hB
    clear hr16 hB
    refine (cr16).mono ?_
    rintro e w6 ⟨rfl, hr, s, hw⟩
    have G5'' := Lib.hid (G5'.out.call hr hw)
    clear hr hw s G5'
    clear cr16
    have cx4 : (w6).cell? ⟨w.heap.size, 4, none⟩ = some (.int .i64 0) := G5''.out.cell 4
    have fx4 := G5''.out.froz 4
    have G6 : Hid (GS w ((w6).setCell ⟨w.heap.size, 4, none⟩ (.int .i64 A)) ⟨(1 : Nat), t.toNat, cc.toNat, H, A, 0, 0, 0, 0⟩ (w.heap.size + 1 + 1 + 1) _) := Lib.hid (G5''.out.store rfl)
    have cx5 : (w6.setCell ⟨w.heap.size, 4, none⟩ (.int .i64 A)).cell? ⟨w.heap.size, 5, none⟩ = some (.int .i64 0) := G6.out.cell 5
    have fx5 := G6.out.froz 5
    have G7 : Hid (GS w ((w6.setCell ⟨w.heap.size, 4, none⟩ (.int .i64 A)).setCell ⟨w.heap.size, 5, none⟩ (.int .i64 B)) ⟨(1 : Nat), t.toNat, cc.toNat, H, A, B, 0, 0, 0⟩ (w.heap.size + 1 + 1 + 1) _) := Lib.hid (G6.out.store rfl)
    clear G5'' G6
    go_wp2_with fail
    clear cx4 fx4 cx5 fx5
    by_cases hAr16 : r16.length < 8
    · refine (eight_not _ _ _ _ G7.out.rd hAr16).mono ?_
      rintro e w' ⟨rfl, rfl⟩
      go_wp2_with fail
      exact door_panic G7.out (get_none1 HK.out (by simp; omega)) _ rfl rfl
    obtain ⟨z, hz⟩ : ∃ x, r16.drop 8 = x := ⟨_, rfl⟩
    obtain ⟨V, hV⟩ : ∃ x, (num (r16.take 8) : Int) = x := ⟨_, rfl⟩
    have dz : z.length = r16.length - 8 := by rw [← hz]; exact List.length_drop
    have cz := eight_yes _ _ _ r16 G7.out.rd (by omega)
    rw [hz, hV] at cz
    have Hz := Lib.hid hz
    have HV := Lib.hid hV
    clear hz hV
    refine (cz).mono ?_
    rintro e w7 ⟨rfl, hr, s, hw⟩
    have G7' := Lib.hid (G7.out.call hr hw)
    clear hr hw s G7
    clear cz
    have cx6 : (w7).cell? ⟨w.heap.size, 6, none⟩ = some (.int .u64 0) := G7'.out.cell 6
    have fx6 := G7'.out.froz 6
    have G8 : Hid (GS w ((w7).setCell ⟨w.heap.size, 6, none⟩ (.int .u64 V)) ⟨(1 : Nat), t.toNat, cc.toNat, H, A, B, V, 0, 0⟩ (w.heap.size + 1 + 1 + 1) _) := Lib.hid (G7'.out.store rfl)
    clear G7'
    obtain ⟨ra, rc, hrc⟩ := rd_len G8.out.rd
    by_cases hE : 0 < z.length
    · go_wp2_with fail
      exact door_panic G8.out (get_none1 HK.out (by simp; omega)) _ rfl rfl
    have hz : z.length = 0 := by omega
    rw [hz] at hrc
    have hx : (w7.setCell ⟨w.heap.size, 6, none⟩ (.int .u64 V)).heap[w.heap.size]? = some (.cells (ev ⟨1, t.toNat, cc.toNat, H, A, B, V, 0, 0⟩).toArray 26 (0, 0)) := G8.out.hx
    have he := G8.out.he
    have hb := G8.out.bl.setCell (p := ⟨w.heap.size + 1, 0, none⟩) (Nat.le_succ _) (.int .i64 0)
    have ce := cell_of_row _ _ 0 _ _ _ he
    have fe := frozen_row he 0
    have hse := setRow_self _ _ _ _ _ hx
    have HX := Lib.hid hx
    have hx' := heap_cell_other (p := w.heap.size + 1) (i := 0) hx (by omega) (.int .i64 0)
    have he' := heap_cell_same (i := 0) he (.int .i64 0)
    have hg := get_some_E (show getL (k :: t :: cc :: r) = some ⟨1, t.toNat, cc.toNat, H, A, B, V, 0, 0⟩ from by rw [get_one HK.out (by omega)]; rw [Hr8.out, Hr12.out, Hr16.out, HH.out, HA.out, HB.out, HV.out])
    have HD := Lib.hid (fun tmps => door_ret (l := _) (w0 := w) (by rw [hg.1]; exact hx') (by rw [hg.2]; exact he') hb tmps)
    clear hx he hb hx' he' hg hz hE
    go_wp2_with (first | (refine wpList_load_row rfl _ _ rfl w.heap.size rfl 26 (ev ⟨1, t.toNat, cc.toNat, H, A, B, V, 0, 0⟩).toArray (0, 0) _ HX.out Try.underlying26 rfl info26' ?_) | (refine wpList_store_row rfl _ _ _ rfl w.heap.size (ev ⟨1, t.toNat, cc.toNat, H, A, B, V, 0, 0⟩).toArray rfl rfl 26 _ HX.out info26' rfl (ev_one _) ?_))
    refine HD.out _ ?_ ?_ <;> rfl
  · by_cases h2 : K = 2
    · subst h2
      go_wp2_with fail
      clear cx0 fx0
      rcases r with _ | ⟨t, r⟩
      · refine (one_not _ _ _ _ G2.out.rd (by simp)).mono ?_
        rintro e w' ⟨rfl, rfl⟩
        go_wp2_with fail
        exact door_panic G2.out (get_none2 HK.out (by simp)) _ rfl rfl
      have ht := t.toNat_lt
      refine (one_yes _ _ _ t r G2.out.rd).mono ?_
      rintro e w2 ⟨rfl, hr, s, hw⟩
      have G2' := Lib.hid (G2.out.call hr hw)
      clear hr hw s G2
      go_wp2_with fail
      rcases r with _ | ⟨cc, z⟩
      · refine (one_not _ _ _ _ G2'.out.rd (by simp)).mono ?_
        rintro e w' ⟨rfl, rfl⟩
        go_wp2_with fail
        exact door_panic G2'.out (get_none2 HK.out (by simp)) _ rfl rfl
      have hcc := cc.toNat_lt
      refine (one_yes _ _ _ cc z G2'.out.rd).mono ?_
      rintro e w3 ⟨rfl, hr, s, hw⟩
      have G2'' := Lib.hid (G2'.out.call hr hw)
      clear hr hw s G2'
      have cx7 : (w3).cell? ⟨w.heap.size, 7, none⟩ = some (.int .i64 0) := G2''.out.cell 7
      have fx7 := G2''.out.froz 7
      have G3 : Hid (GS w ((w3).setCell ⟨w.heap.size, 7, none⟩ (.int .i64 (t.toNat : Int))) ⟨(2 : Nat), 0, 0, 0, 0, 0, 0, t.toNat, 0⟩ (w.heap.size + 1 + 1 + 1) _) := Lib.hid (G2''.out.store rfl)
      have cx8 : (w3.setCell ⟨w.heap.size, 7, none⟩ (.int .i64 (t.toNat : Int))).cell? ⟨w.heap.size, 8, none⟩ = some (.int .u8 0) := G3.out.cell 8
      have fx8 := G3.out.froz 8
      have G4 : Hid (GS w ((w3.setCell ⟨w.heap.size, 7, none⟩ (.int .i64 (t.toNat : Int))).setCell ⟨w.heap.size, 8, none⟩ (.int .u8 (cc.toNat : Int))) ⟨(2 : Nat), 0, 0, 0, 0, 0, 0, t.toNat, cc.toNat⟩ (w.heap.size + 1 + 1 + 1) _) := Lib.hid (G3.out.store rfl)
      clear G2'' G3
      obtain ⟨ra, rc, hrc⟩ := rd_len G4.out.rd
      by_cases hE : 0 < z.length
      · go_wp2_with fail
        exact door_panic G4.out (get_none2 HK.out (by rw [List.length_cons, List.length_cons, List.length_cons]; omega)) _ rfl rfl
      have hz : z.length = 0 := by omega
      rw [hz] at hrc
      have hx : ((w3.setCell ⟨w.heap.size, 7, none⟩ (.int .i64 (t.toNat : Int))).setCell ⟨w.heap.size, 8, none⟩ (.int .u8 (cc.toNat : Int))).heap[w.heap.size]? = some (.cells (ev ⟨2, 0, 0, 0, 0, 0, 0, t.toNat, cc.toNat⟩).toArray 26 (0, 0)) := G4.out.hx
      have he := G4.out.he
      have hb := G4.out.bl.setCell (p := ⟨w.heap.size + 1, 0, none⟩) (Nat.le_succ _) (.int .i64 0)
      have ce := cell_of_row _ _ 0 _ _ _ he
      have fe := frozen_row he 0
      have hse := setRow_self _ _ _ _ _ hx
      have HX := Lib.hid hx
      have hx' := heap_cell_other (p := w.heap.size + 1) (i := 0) hx (by omega) (.int .i64 0)
      have he' := heap_cell_same (i := 0) he (.int .i64 0)
      have hg := get_some_E (show getL (k :: t :: cc :: z) = some ⟨2, 0, 0, 0, 0, 0, 0, t.toNat, cc.toNat⟩ from by obtain rfl : z = [] := List.eq_nil_of_length_eq_zero hz; exact get_two HK.out)
      have HD := Lib.hid (fun tmps => door_ret (l := _) (w0 := w) (by rw [hg.1]; exact hx') (by rw [hg.2]; exact he') hb tmps)
      clear hx he hb hx' he' hg hz hE
      go_wp2_with (first | (refine wpList_load_row rfl _ _ rfl w.heap.size rfl 26 (ev ⟨2, 0, 0, 0, 0, 0, 0, t.toNat, cc.toNat⟩).toArray (0, 0) _ HX.out Try.underlying26 rfl info26' ?_) | (refine wpList_store_row rfl _ _ _ rfl w.heap.size (ev ⟨2, 0, 0, 0, 0, 0, 0, t.toNat, cc.toNat⟩).toArray rfl rfl 26 _ HX.out info26' rfl (ev_one _) ?_))
      refine HD.out _ ?_ ?_ <;> rfl
    · have h1' : (K : Int) ≠ 1 := by omega
      have h2' : (K : Int) ≠ 2 := by omega
      have e1 : ((K : Int) == 1) = false := by rw [beq_eq_false_iff_ne]; exact h1'
      have e2 : ((K : Int) == 2) = false := by rw [beq_eq_false_iff_ne]; exact h2'
      clear h1' h2'
      go_wp2_with fail
      exact door_panic G2.out (get_none3 (by rw [HK.out]; exact h1) (by rw [HK.out]; exact h2)) _ rfl rfl
end Go.Proofs.Ytccakpbgmgogeaa
