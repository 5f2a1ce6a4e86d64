/- The walk of the statement that the least does not hang on the order. -/
import Derived.Test.YthhlgdjpopdboaaRealOpen
import Derived.Test.YthhlgdjpopdboaaRealN
import Derived.OwnWalk
import Derived.Laws.AppendOwn
import Derived.Deep.RegionHeld3
import Derived.Deep.AppendLies
namespace Go.Proofs.Ythhlgdjpopdboaa
open Go.RowKit FloatPlain Ieee

theorem info22 : (Try.prog.info? 22).map (fun i => (i.zero, i.size, i.bytes)) = some (some (.int .u64 0), 1, 8) := by kernel_rfl

/-- append at a guarded step of a region that draws -/
theorem step_append_g {P : Program} {ops : Array Oper} {o : Oper} {a : Act} {w : World} {K : Act → World → Prop} {Q : Exit → Act → World → Prop} {E : Prop} (hw : Region.wanted o (yielded ops a.tmps) = true) (s x : Operand) (t : TypeId)
    (ho : o.op = .call { callee := .builtin .append, args := #[s, x], argTypes := #[t, t] })
    (base : Nat) (e : TypeId) (i : TypeInfo) (z : Value) (size bytes : Nat) (ht : P.underlying t = some (.slice e)) (hi : P.info? e = some i) (hz : i.zero = some z)
    (hsize : i.size = size) (hby : i.bytes = bytes) (hzs : z.cells.size = size) (hsz : 0 < size)
    (v : Value) (n : Nat) (xs : List Value) (hs : a.eval s = v) (hown : w.ownsRow base e size v n xs)
    (ad : Addr) (m c : Nat) (news : List Value) (hx : a.eval x = .slice (some ad) m c) (hl : news.length = m * size) (hnews : ∀ j u, news[j]? = some u → w.cell? (ad.add j) = some u) (h1 : ∀ u ∈ news, u.oneCell' = true)
    (h63 : n + m ≤ maxLen) (hbytes : (n + m) * bytes ≤ 140737488355328) (hbase : base ≤ w.heap.size)
    (h : ∀ v' w', w'.ownsRow base e size v' (n + m) (xs ++ news) → w.grownBy w' v.ownBlock → K (a.put o.dst v') w') :
    if Region.wanted o (yielded ops a.tmps) = true then Oper.wp P o a w K Q else E := by
  rw [if_pos hw]
  exact wp_append_own w s x t ho base e i z size bytes ht hi hz hsize hby hzs hsz v n xs hs hown ad m c news hx hl hnews h1 h63 hbytes hbase fun v' w' h2 h3 _ => h v' w' h2 h3

/-! the plain law -/
theorem least_mem (f : Nat → Nat) (n : Nat) : leastN (Lf f n) = NAN ∨ ∃ i, i < n ∧ leastN (Lf f n) = f i := by
  induction n with
  | zero => left; rfl
  | succ n ih =>
    rw [least_Lf]
    unfold stepL
    split
    · exact .inr ⟨n, by omega, rfl⟩
    · rcases ih with h | ⟨i, h1, h2⟩
      · exact .inl h
      · exact .inr ⟨i, by omega, h2⟩
theorem least_there (f : Nat → Nat) (hf : ∀ i, f i < 2 ^ 64) (n : Nat) (hn : 0 < n) : ∃ i, i < n ∧ canon (f i) = leastN (Lf f n) := by
  have hc := (least_lt f hf n).2
  rcases least_mem f n with h | ⟨i, h1, h2⟩
  · refine ⟨0, hn, ?_⟩
    have k1 := key_least f n 0 hn
    have k2 := key_NAN (hf 0)
    rw [h] at k1 ⊢
    have : key (f 0) = key NAN := by omega
    rw [key_inj (hf 0) (by decide)] at this
    rw [this]; decide
  · exact ⟨i, h1, by rw [← h2]; exact hc⟩
theorem least_same (f g : Nat → Nat) (hf : ∀ i, f i < 2 ^ 64) (hg : ∀ i, g i < 2 ^ 64) (n : Nat) (h1 : ∀ i, i < n → ∃ j, j < n ∧ f i = g j) (h2 : ∀ i, i < n → ∃ j, j < n ∧ g i = f j) : leastN (Lf f n) = leastN (Lf g n) := by
  have le : ∀ (f g : Nat → Nat), (∀ i, f i < 2 ^ 64) → (∀ i, g i < 2 ^ 64) → (∀ i, i < n → ∃ j, j < n ∧ g i = f j) → key (leastN (Lf f n)) ≤ key (leastN (Lf g n)) := by
    intro f g hf hg h
    rcases least_mem g n with e | ⟨i, hi, e⟩
    · rw [e]; exact key_NAN (least_lt f hf n).1
    · obtain ⟨j, hj, e2⟩ := h i hi
      rw [e, e2]; exact key_least f n j hj
  have a := le f g hf hg h2
  have b := le g f hg hf h1
  have : key (leastN (Lf f n)) = key (leastN (Lf g n)) := by omega
  rw [key_inj (least_lt f hf n).1 (least_lt g hg n).1, (least_lt f hf n).2, (least_lt g hg n).2] at this
  exact this
/-- the words, turned by k -/
def rot (f : Nat → Nat) (len k i : Nat) : Nat := if i < len - k then f (k + i) else f (i - (len - k))
theorem rot_least (f : Nat → Nat) (hf : ∀ i, f i < 2 ^ 64) (len k : Nat) (hk : k < len) : leastN (Lf (rot f len k) len) = leastN (Lf f len) := by
  refine least_same _ _ (fun i => ?_) hf len (fun i hi => ?_) (fun i hi => ?_)
  · unfold rot; split <;> exact hf _
  · unfold rot
    split
    · exact ⟨k + i, by omega, rfl⟩
    · exact ⟨i - (len - k), by omega, rfl⟩
  · by_cases h : k ≤ i
    · exact ⟨i - k, by omega, by unfold rot; rw [if_pos (by omega)]; congr 1; omega⟩
    · exact ⟨i + (len - k), by omega, by unfold rot; rw [if_neg (by omega)]; congr 1; omega⟩
theorem rot_words (f : Nat → Nat) (len k : Nat) (hk : k < len) :
    ((List.range (len - k)).map fun i => Value.int .u64 (f (k + i) : Nat)) ++ ((List.range k).map fun i => Value.int .u64 (f i : Nat)) = (Lf (rot f len k) len).map fun x : Nat => Value.int .u64 x := by
  refine List.ext_getElem (by simp [Lf]; omega) fun i h1 h2 => ?_
  simp only [List.getElem_append, List.length_map, List.length_range, List.getElem_map, List.getElem_range, Lf]
  unfold rot
  split <;> rfl
theorem wds_row {w : World} {base n : Nat} {v : Value} {g : Nat → Nat} (hg : ∀ i, g i < 2 ^ 64) (h : w.ownsRow base 22 1 v n ((Lf g n).map fun x : Nat => Value.int .u64 x)) (hn : n ≤ 100) :
    ∃ A cap, v = .slice A n cap ∧ n ≤ cap ∧ Wds w A n g := by
  obtain ⟨hl, ⟨rfl, rfl⟩ | ⟨q, cap, cur, rfl, hb, hq, hc, hm, hs, ht⟩⟩ := h
  · exact ⟨none, 0, rfl, Nat.le_refl _, hg, by omega, fun h => absurd h (by omega)⟩
  · refine ⟨_, cap, rfl, hc, hg, by omega, fun _ => ⟨q, 0, rfl, ?_, fun i hi => ?_⟩⟩
    · rcases Nat.lt_or_ge q w.heap.size with k | k
      · exact k
      · rw [Array.getElem?_eq_none k] at hq; cases hq
    · rw [Nat.zero_add, cell_of_row w q i cur 22 (0, 0) hq]
      have h1 : (cur.toList.take (n * 1))[i]? = some (.int .u64 (g i : Nat)) := by
        rw [ht, List.getElem?_map]
        unfold Lf
        rw [List.getElem?_map, List.getElem?_range hi]; rfl
      rw [List.getElem?_take_of_lt (by omega)] at h1
      rw [← Array.getElem?_toList]; exact h1

/-- is the least among the first k? -/
def thB (f : Nat → Nat) (ls k : Nat) : Bool := (Lf f k).any fun x => canon x == ls
theorem thB_succ (f : Nat → Nat) (ls k : Nat) : thB f ls (k + 1) = (thB f ls k || (canon (f k) == ls)) := by
  unfold thB Lf; rw [List.range_succ, List.map_append, List.any_append]; simp
theorem thB_yes (f : Nat → Nat) (ls k i : Nat) (hi : i < k) (h : canon (f i) = ls) : thB f ls k = true := by
  unfold thB Lf
  rw [List.any_eq_true]
  exact ⟨f i, by simp; exact ⟨i, hi, rfl⟩, by rw [h]; simp⟩
theorem addr_block (a : Addr) (j : Nat) : (a.add j).block = a.block := by unfold Addr.add; split <;> rfl
theorem turn_of (t : Int) (len : Nat) (hl : 0 < len) : ∃ k : Nat, k < len ∧ ((0 ≤ t.tmod len ∧ t.tmod len = k) ∨ (t.tmod len < 0 ∧ t.tmod len + len = k)) := by
  have h1 : t.tmod len < len := Int.tmod_lt_of_pos _ (by omega)
  have h2 : -(len : Int) < t.tmod len := Int.lt_tmod_of_pos _ (by omega)
  rcases Int.lt_or_le (t.tmod len) 0 with h | h
  · exact ⟨(t.tmod len + len).toNat, by omega, .inr ⟨h, by omega⟩⟩
  · exact ⟨(t.tmod len).toNat, by omega, .inl ⟨h, by omega⟩⟩

set_option maxHeartbeats 4000000 in
theorem leasts_out (w : World) (A : Option Addr) (len cap : Nat) (t : Int) (hl : len ≤ 9223372036854775807) (h : 100 < len ∨ len = 0) : Calls Try.prog 12 #[.slice A len cap, .int .i64 t] w fun e w' => e = .returned (.bool true) ∧ Below w.heap.size w w' := by
  have aw := fun w => awake_any w
  have pl := fun w => pleast_any w none 0 0 (fun _ => 0) ⟨fun _ => (by decide : (0 : Nat) < 2 ^ 64), by decide, fun h => absurd h (by decide)⟩
  have pl : ∀ w, Calls Try.prog 28 #[.slice none 0 0] w fun e w' => e = .returned (.int .u64 9221120237041090560) ∧ w = w' := pl
  have h' : 100 < len ∨ len = 0 := h
  rcases h' with h' | h'
  · clear h
    go_enter Try.func12, Try.ntmps12
    go_wp2_with fail
    refine (pl _).mono ?_
    rintro e w' ⟨rfl, rfl⟩
    go_wp2_with fail
    refine (aw _).mono ?_
    rintro e w4 ⟨rfl, b4⟩
    go_wp2_with fail
    go_ret
    exact ⟨rfl, b4⟩
  · subst h'
    clear h
    go_enter Try.func12, Try.ntmps12
    go_wp2_with fail
    refine (pl _).mono ?_
    rintro e w' ⟨rfl, rfl⟩
    go_wp2_with fail
    refine (aw _).mono ?_
    rintro e w4 ⟨rfl, b4⟩
    go_wp2_with fail
    go_ret
    exact ⟨rfl, b4⟩
set_option maxHeartbeats 400000 in
theorem leasts_in (w : World) (A : Option Addr) (len cap : Nat) (f : Nat → Nat) (t : Int) (h : Wds w A len f) (hcap : len ≤ cap) (h0 : 0 < len) (h1 : len ≤ 100) :
    Calls Try.prog 12 #[.slice A len cap, .int .i64 t] w fun e w' => e = .returned (.bool true) ∧ Below w.heap.size w w' := by
  have aw := fun w => awake_any w
  have pl := fun w (h : Wds w A len f) => pleast_any w A len cap f h
  have lt := (least_lt f h.1 len).1
  obtain ⟨i, hi, hth⟩ := least_there f h.1 len h0
  have TH : Hid (thB f (leastN (Lf f len)) len = true) := Lib.hid (thB_yes f _ len i hi hth)
  have TS : Hid (∀ k, thB f (leastN (Lf f len)) (k + 1) = (thB f (leastN (Lf f len)) k || (canon (f k) == leastN (Lf f len)))) := Lib.hid fun k => thB_succ f _ k
  obtain ⟨kk, hkl, htt⟩ := turn_of t len h0
  have RL := Lib.hid (rot_least f h.1 len kk hkl)
  have RW := Lib.hid (rot_words f len kk hkl)
  have RF : Hid (∀ i, rot f len kk i < 2 ^ 64) := Lib.hid fun i => by unfold rot; split <;> exact h.1 _
  obtain ⟨i0, ii, hz0, hz1, hz2⟩ := info_parts info22
  have HW := Lib.hid h
  obtain ⟨b, off, rfl, hbb, hcell⟩ := h.2.2 h0
  have HC := Lib.hid hcell
  have HF := Lib.hid h.1
  clear h hi hth hcell
  generalize hls : leastN (Lf f len) = ls at *
  have l0 : (0 : Int) < len := by omega
  have l2 : decide ((100 : Int) < len) = false := decide_eq_false (by omega)
  have l3 : ((len : Int) == 0) = false := by rw [beq_eq_false_iff_ne]; omega
  have l1 : (len : Int) ≠ 0 := by omega
  clear hls lt
  rcases htt with ⟨g0, g1⟩ | ⟨g0, g1⟩
  all_goals
    go_enter Try.func12, Try.ntmps12
    go_wp2_with fail
    refine (pl _ HW.out).mono ?_
    rintro e w' ⟨rfl, rfl⟩
    go_wp2_with fail
    go_loop [7, 8] (fun th i => ∃ k : Nat, k ≤ len ∧ i = .int .i64 k ∧ th = .bool (thB f ls k)) (fun _ i => len - (intOf i).toNat)
    case atStart => exact ⟨0, by omega, rfl, rfl⟩
    case round =>
      obtain ⟨k, hk, rfl, rfl⟩ := hrel
      by_cases hlt : k < len
      · have ck := HC.out k hlt
        have ts := TS.out k
        have ca := fun w => canon_any (f k) w
        generalize canon (f k) = cx at *
        generalize f k = x at *
        cases hb : thB f ls k
        · rw [hb, Bool.false_or] at ts
          have TS1 : Hid (thB f ls (k + 1) = ((cx : Int) == ls)) := Lib.hid (by rw [ts, Bool.eq_iff_iff]; simp; omega)
          clear ts hb
          go_wp2_with (go_at_call 17; refine (ca _).mono ?_; rintro e w' ⟨rfl, rfl⟩)
          go_round
          case rel => exact ⟨k + 1, by omega, by go_num, by rw [TS1.out]⟩
          case measure => simp [intOf]; omega
        · rw [hb, Bool.true_or] at ts
          have TS1 := Lib.hid ts
          clear ts hb
          go_wp2_with fail
          go_round
          case rel => exact ⟨k + 1, by omega, by go_num, by rw [TS1.out]⟩
          case measure => simp [intOf]; omega
      · obtain rfl : k = len := by omega
        rw [TH.out]
        have c0 : (0 : Int) ≤ kk := by omega
        have c1 : (kk : Int) ≤ k := by omega
        have c2 : (kk : Int) ≤ cap := by omega
        have c3 : ¬ cap = kk := by omega
        have c4 : (kk : Int) < cap := by omega
        have OWN0 : Hid ((w.alloc (.cells #[] 22)).ownsRow w.heap.size 22 1 (.slice (some ⟨w.heap.size, 0, none⟩) 0 0) 0 []) :=
          Lib.hid ⟨rfl, .inr ⟨_, 0, #[], rfl, Nat.le_refl _, heap_alloc_new _ _, Nat.le_refl _, by decide, rfl, rfl⟩⟩
        have BL0 : Hid (Below w.heap.size w (w.alloc (.cells #[] 22)).drew) := Lib.hid ((Below.refl _ _).alloc (Nat.le_refl _) _).drew
        have N1 : Hid (∀ j u, ((List.range (k - kk)).map fun i => Value.int .u64 (f (kk + i) : Nat))[j]? = some u → w.cell? ((⟨b, off + kk, none⟩ : Addr).add j) = some u) := Lib.hid fun j u hj => by
          rw [List.getElem?_map] at hj
          by_cases h : j < k - kk
          · rw [List.getElem?_range h] at hj
            cases hj
            have := HC.out (kk + j) (by omega)
            rw [← Nat.add_assoc] at this
            unfold Addr.add
            split
            · rename_i e; subst e; exact this
            · exact this
          · rw [List.getElem?_eq_none (by simpa using h)] at hj; cases hj
        have N2 : Hid (∀ j u, ((List.range kk).map fun i => Value.int .u64 (f i : Nat))[j]? = some u → w.cell? ((⟨b, off, none⟩ : Addr).add j) = some u) := Lib.hid fun j u hj => by
          rw [List.getElem?_map] at hj
          by_cases h : j < kk
          · rw [List.getElem?_range h] at hj
            cases hj
            have := HC.out j (by omega)
            unfold Addr.add
            split
            · rename_i e; subst e; exact this
            · exact this
          · rw [List.getElem?_eq_none (by simpa using h)] at hj; cases hj
        go_upto_region 12 with fail
        go_region_held3 (fun _ => True) (trivial) ((first
          | (refine step_append_g (by rfl) (.tmp 52) (.tmp 55) 37 (by rfl) w.heap.size 22 i0 (.int .u64 0) 1 8 Try.underlying37 ii hz0 hz1 hz2 rfl (by decide) _ 0 [] (by rfl) (by exact OWN0.out) ⟨b, off + kk, none⟩ (k - kk) _ ((List.range (k - kk)).map fun i => Value.int .u64 (f (kk + i) : Nat)) (by rfl) (by simp) (fun j u hj => ((Below.cell BL0.out (p := (⟨b, off + kk, none⟩ : Addr).add j) (by rw [addr_block]; exact hbb)).trans (N1.out j u hj))) (fun u hu => by simp at hu; obtain ⟨_, _, rfl⟩ := hu; rfl) (by unfold maxLen; omega) (by omega) (by simp) ?_; intro v1 w1 hown1 hgrow1; have HB1 : Hid (Below w.heap.size w w1) := Lib.hid (BL0.out.grown (by exact hgrow1) (by simp) (fun j hj => by cases hj; exact Nat.le_refl _)); have CE1 : Hid (∀ j u, ((List.range kk).map fun i => Value.int .u64 (f i : Nat))[j]? = some u → w1.cell? ((⟨b, off, none⟩ : Addr).add j) = some u) := Lib.hid (fun j u hj => (HB1.out.cell (p := (⟨b, off, none⟩ : Addr).add j) (by rw [addr_block]; exact hbb)).trans (N2.out j u hj)); have OWN1 := Lib.hid hown1; clear hown1 hgrow1)
          | (refine step_append_g (by rfl) (.tmp 56) (.tmp 59) 37 (by rfl) w.heap.size 22 i0 (.int .u64 0) 1 8 Try.underlying37 ii hz0 hz1 hz2 rfl (by decide) v1 _ _ (by rfl) OWN1.out ⟨b, off, none⟩ kk _ ((List.range kk).map fun i => Value.int .u64 (f i : Nat)) (by rfl) (by simp) CE1.out (fun u hu => by simp at hu; obtain ⟨_, _, rfl⟩ := hu; rfl) (by unfold maxLen; omega) (by omega) HB1.out.size ?_; intro v2 w2 hown2 hgrow2; have HB2 : Hid (Below w.heap.size w w2) := Lib.hid (HB1.out.grown hgrow2 HB1.out.size (fun j hj => (OWN1.out.lt j hj).1)); rw [List.nil_append, RW.out, show 0 + (k - kk) + kk = k by omega] at hown2; obtain ⟨A2, cap2, rfl, hcap2, WD⟩ := wds_row RF.out hown2 (by omega); have PL := pleast_any w2 A2 k cap2 (rot f k kk) WD; rw [RL.out] at PL; clear hown2 hgrow2 WD)
          | (go_at_call 28; refine PL.mono ?_; rintro e w' ⟨rfl, rfl⟩)
          | (go_at_call 19; refine (aw _).mono ?_; rintro e w4 ⟨rfl, b4⟩)))
        go_wp2_with fail
        go_ret
        exact ⟨rfl, HB2.out.trans (b4.mono HB2.out.size)⟩
theorem leasts_walk (w : World) (A : Option Addr) (len cap : Nat) (f : Nat → Nat) (t : Int) (h : Wds w A len f) (hcap : len ≤ cap) : Calls Try.prog 12 #[.slice A len cap, .int .i64 t] w fun e w' => e = .returned (.bool true) ∧ Below w.heap.size w w' := by
  by_cases h' : 100 < len ∨ len = 0
  · exact leasts_out w A len cap t h.2.1 h'
  · exact leasts_in w A len cap f t h hcap (by omega) (by omega)
end Go.Proofs.Ythhlgdjpopdboaa
