/- the table of terms: New, Fresh, part, right; the key of what is made. -/
import Derived.Test.YtipehnojibdfeaaGreatTerm5
namespace Go.Proofs.YtipehnojibdfeaaGreat
open Go Go.Proofs Go.RowKit

theorem termNew_any (w : World) (M : Nat) : Calls Tryz.prog 35 #[] w fun e w' => ∃ t, e = .returned (.pointer (some ⟨t, 0, none⟩)) ∧ w.heap.size ≤ t ∧ TableAt w' w.heap.size t M [] 0 ∧ Below w.heap.size w w' := by
  have hmm := @run_makeMap Tryz.prog
  have hown := World.ownsMap_made (H := Unit) w Tryz.prog 9 (plainElem Tryz.prog 3)
  go_enter Tryz.func35, Tryz.ntmps35
  go_wp2_with fail
  go_ret
  have hB := Blk.new (w.alloc (.map #[] 0)) 89 #[.slice none 0 0, .map (some w.heap.size), .int .i64 0]
  rw [World.size_alloc] at hB
  refine ⟨_, rfl, by simp, ⟨.slice none 0 0, [], w.heap.size, .map [], hB, World.ownsRow_nil _ _ _ _, by simp, Nat.le_refl _, hown.alloc _, mapIs_empty, fun i x h => by simp at h, fun x h => by simp at h⟩, ((Below.refl _ _).alloc (Nat.le_refl _) _).alloc (by simp) _⟩

set_option maxRecDepth 100000 in
set_option maxHeartbeats 2000000 in
theorem termPart_any (w : World) (base t M : Nat) (T : List Node) (k : Nat) (hT : TableAt w base t M T k) (hb : base ≤ w.heap.size) (hlen : T.length ≤ 100000) (s : List UInt8) (hs : s.length ≤ 100000000) :
    Calls Tryz.prog 143 #[.pointer (some ⟨t, 0, none⟩), .string (bs s)] w fun e w' => e = .returned (.int .i64 ((partN T s).2 : Int)) ∧ TableAt w' base t M (partN T s).1 k ∧ TF base w w' := by
  have hnum := termNumber_any w base t M T k hT hlen (bs s) (by rw [bs_size]; omega)
  rw [bs_list] at hnum
  have hpart : partN T s = match numOf T.length s with | some n => (T, n) | none => putN T (.data s) := rfl
  have hnumI : numI T.length s = match numOf T.length s with | some n => (n : Int) | none => -1 := rfl
  cases hn : numOf T.length s with
  | some n =>
    rw [hn] at hpart hnumI
    simp only at hpart hnumI
    rw [hnumI] at hnum
    have HP : Hid (partN T s = (T, n)) := hpart
    clear hn hpart hnumI
    go_enter Tryz.func143, Tryz.ntmps143
    go_wp2_with fail
    refine hnum.mono ?_
    rintro e w1 ⟨rfl, b1⟩
    go_wp2
    go_ret
    exact ⟨by rw [HP.out]; rfl, by rw [HP.out]; exact hT.later b1, TF.of_below b1 hb⟩
  | none =>
    rw [hn] at hpart hnumI
    simp only at hpart hnumI
    rw [hnumI] at hnum
    have HP : Hid (partN T s = putN T (.data s)) := hpart
    clear hn hpart hnumI
    go_enter Tryz.func143, Tryz.ntmps143
    go_wp2_with fail
    refine hnum.mono ?_
    rintro e w1 ⟨rfl, b1⟩
    have hput := putData_any w1 base t M T k (hT.later b1) (Nat.le_trans hb b1.size) hlen (.data s) (show s.length ≤ _ by omega) (.agg #[.string (bs s)]) rfl (by simp [Node.key]; omega) (dataKey_any w1 s (by omega))
    clear hnum
    go_wp2_with fail
    refine hput.mono ?_
    rintro e w2 ⟨rfl, hT2, q2⟩
    clear hput
    go_wp2
    go_ret
    exact ⟨by rw [HP.out]; rfl, by rw [HP.out]; exact hT2, (TF.of_below b1 hb).trans q2⟩

set_option maxRecDepth 100000 in
set_option maxHeartbeats 2000000 in
theorem termFresh_any (w : World) (base t M : Nat) (T : List Node) (k : Nat) (hT : TableAt w base t M T k) (hb : base ≤ w.heap.size) (hlen : T.length ≤ 60000) (hk : k ≤ 60000) :
    Calls Tryz.prog 57 #[.pointer (some ⟨t, 0, none⟩)] w fun e w' => e = .returned (.string (bs (textL (putN T (.name k)).2))) ∧ TableAt w' base t M (putN T (.name k)).1 (k + 1) ∧ TF base w w' := by
  have hnone := termNone_any w base t M T k hT
  have hT0 := hT
  obtain ⟨lv, xs, m, D, a1, a2, a3, a4, a5, a6, a7, a8⟩ := hT
  obtain ⟨A, c, hlv⟩ := ownsRow_slice a2
  have C0 : w.cell? ⟨t, 0, none⟩ = some (.slice A T.length c) := by rw [← hlv]; exact a1.cell 0
  have C2 : w.cell? ⟨t, 2, none⟩ = some (.int .i64 (k : Int)) := a1.cell 2
  have F2 : w.frozen? ⟨t, 2, none⟩ = false := a1.frozen 2
  obtain ⟨w1, hw1⟩ : ∃ w1, w1 = w.setCell ⟨t, 2, none⟩ (.int .i64 ((k : Int) + 1)) := ⟨_, rfl⟩
  have hg1 : w.grownBy w1 (some t) := by rw [hw1]; exact grownBy_set (grownBy_refl w (some t)) _
  have hq1 : TF base w w1 := TF.of_grown hg1 hb (fun j hj => by cases hj; exact a3) (fun j o hj ho => by cases hj; rw [a1] at ho; cases ho; exact fun h => h.1 rfl)
  have hT1 : TableAt w1 base t M T (k + 1) := by
    have hB1 : Blk w1 t 89 #[lv, .map (some m), .int .i64 ((k : Int) + 1)] := by rw [hw1]; exact a1.set_ 2 _
    refine ⟨lv, xs, m, D, hB1, a2.kept hg1 (.inr (own_blk_ne a2 a1 (by decide))), a3, a4, a5.kept hg1 (fun e => ownsMap_ne_blk a5 a1 (Option.some.inj e)), a6, fun i x hx => ?_, a8⟩
    obtain ⟨v, hv, hn⟩ := a7 i x hx
    exact ⟨v, hv, hn.far_ hq1.2 (fun _ => ⟨by decide, by decide⟩)⟩
  have C21 : w1.cell? ⟨t, 2, none⟩ = some (.int .i64 ((k : Int) + 1)) := by rw [hw1]; exact (a1.set_ 2 _).cell 2
  have hput := putName_any w1 base t M T (k + 1) hT1 (Nat.le_trans hb hg1.size) (by omega) (.name k) (show k ≤ 65536 by omega) (.agg #[.int .i64 (k : Int)]) rfl (by simp [Node.key, numTo_length]) (nameKey_any w1 k (by omega))
  have hle : (putN T (.name k)).2 ≤ T.length := by
    unfold putN
    cases hf : findN T (Node.name k).key with
    | some i => obtain ⟨x, hx, _⟩ := findN_lt hf; have := (List.getElem?_eq_some_iff.1 hx).1; simp only; omega
    | none => simp
  obtain ⟨n, hn⟩ : ∃ n, n = (putN T (.name k)).2 := ⟨_, rfl⟩
  rw [← hn] at hput hle
  have HN : Hid (n = (putN T (.name k)).2) := hn
  have hkd : decide ((65536 : Int) ≤ (T.length : Int)) = false := by rw [decide_eq_false_iff_not]; omega
  have HW1 : Hid (w1 = w.setCell ⟨t, 2, none⟩ (.int .i64 ((k : Int) + 1))) := hw1
  clear hT0 a1 a2 a3 a4 a5 a6 a7 a8 hlv hn hT1 hw1
  go_enter Tryz.func57, Tryz.ntmps57
  go_wp2_with fail
  refine hnone.mono ?_
  rintro e w' ⟨rfl, hw⟩
  rw [hw]
  clear hw w' hnone
  go_wp2_with fail
  rw [← HW1.out]
  refine hput.mono ?_
  rintro e w2 ⟨rfl, hT2, q2⟩
  have htx := text_any w2 n (by omega)
  clear hput C0 C2 F2 C21
  go_wp2_with fail
  refine htx.mono ?_
  rintro e w3 ⟨rfl, b3⟩
  clear htx
  go_wp2
  go_ret
  have q := hq1.trans (q2.trans (TF.of_below b3 (Nat.le_trans hb (Nat.le_trans hg1.size q2.1.size))))
  exact ⟨by rw [← HN.out]; rfl, hT2.later b3, q⟩

set_option maxRecDepth 100000 in
theorem right3_any (w : World) : Calls Tryz.prog 139 #[.int .i64 3, .int .i64 1] w fun e w' => e = .returned (.bool true) ∧ w' = w := by
  go_enter Tryz.func139, Tryz.ntmps139
  go_wp2_with fail
  go_ret
  exact ⟨rfl, rfl⟩
set_option maxRecDepth 100000 in
theorem right4_any (w : World) : Calls Tryz.prog 139 #[.int .i64 4, .int .i64 2] w fun e w' => e = .returned (.bool true) ∧ w' = w := by
  go_enter Tryz.func139, Tryz.ntmps139
  go_wp2_with fail
  go_ret
  exact ⟨rfl, rfl⟩
set_option maxRecDepth 100000 in
theorem right6_any (w : World) : Calls Tryz.prog 139 #[.int .i64 6, .int .i64 4] w fun e w' => e = .returned (.bool true) ∧ w' = w := by
  go_enter Tryz.func139, Tryz.ntmps139
  go_wp2_with fail
  go_ret
  exact ⟨rfl, rfl⟩
set_option maxRecDepth 100000 in
theorem right5_any (w : World) (n : Nat) (hn : n ≤ 100) : Calls Tryz.prog 139 #[.int .i64 5, .int .i64 (n : Int)] w fun e w' => e = .returned (.bool true) ∧ w' = w := by
  go_enter Tryz.func139, Tryz.ntmps139
  go_wp2_with fail
  go_ret
  exact ⟨by simp; omega, rfl⟩
set_option maxRecDepth 100000 in
theorem make1_any (w : World) (s : ByteArray) : Calls Tryz.prog 140 #[.string s] w fun e w' => e = .returned (.bool (decide (65536 < s.size))) ∧ w' = w := by
  go_enter Tryz.func140, Tryz.ntmps140
  go_wp2_with fail
  go_ret
  exact ⟨by simp; omega, rfl⟩

theorem partsL_snoc (a : List Nat) (p : Nat) : ∀ l, partsL l (a ++ [p]) = partsL l a ++ numTo (p : Int) 4 4 := by
  induction a with
  | nil => intro l; rfl
  | cons b a ih => intro l; exact ih _
theorem partsL_length (a : List Nat) : ∀ l, (partsL l a).length = l.length + 4 * a.length := by
  induction a with
  | nil => intro l; rfl
  | cons b a ih => intro l; rw [partsL, ih]; simp [numTo_length]; omega
set_option maxRecDepth 100000 in
set_option maxHeartbeats 4000000 in
theorem madeKey_any (w : World) (base kind n : Nat) (l : List UInt8) (ps : List Nat) (hk : kind < 256) (hn : n < 256) (hl : l.length ≤ 100000000) (hps : ps.length ≤ 1000) (hp : ∀ p ∈ ps, p ≤ 65536) (pv : Value)
    (ho : w.ownsRow base 3 1 pv ps.length (ps.map fun (p : Nat) => .int .i64 (p : Int))) :
    Calls Tryz.prog 154 #[.agg #[.int .i64 (kind : Int), .int .i64 (n : Int), .string (bs l), pv]] w fun e w' => e = .returned (.string (bs (Node.made kind n l ps).key)) ∧ Below w.heap.size w w' := by
  obtain ⟨w1, hw1⟩ : ∃ w1, w1 = w.alloc (.cells #[.int .i64 (kind : Int), .int .i64 (n : Int), .string (bs l), pv] 195) := ⟨_, rfl⟩
  have hB1 : Blk w1 w.heap.size 195 #[.int .i64 (kind : Int), .int .i64 (n : Int), .string (bs l), pv] := by rw [hw1]; exact Blk.new _ _ _
  have b1 : Below w.heap.size w w1 := by rw [hw1]; exact (Below.refl _ _).alloc (Nat.le_refl _) _
  have ho1 := ownsRow_later ho b1
  obtain ⟨A, c, hpv⟩ := ownsRow_slice ho
  subst hpv
  have HW1 : Hid (w1 = w.alloc (.cells #[.int .i64 (kind : Int), .int .i64 (n : Int), .string (bs l), .slice A ps.length c] 195)) := hw1
  clear hw1 ho
  have L0 := later_cell (show w1.cell? ⟨w.heap.size, 0, none⟩ = some (.int .i64 (kind : Int)) from hB1.cell 0)
  have L1 := later_cell (show w1.cell? ⟨w.heap.size, 1, none⟩ = some (.int .i64 (n : Int)) from hB1.cell 1)
  have L2 := later_cell (show w1.cell? ⟨w.heap.size, 2, none⟩ = some (.string (bs l)) from hB1.cell 2)
  go_enter Tryz.func154, Tryz.ntmps154
  go_wp2_with fail
  rw [← HW1.out]
  obtain ⟨k1, hk1⟩ : ∃ k1, k1 = [109] ++ numTo (kind : Int) 1 1 := ⟨_, rfl⟩
  obtain ⟨k2, hk2⟩ : ∃ k2, k2 = k1 ++ numTo (n : Int) 1 1 := ⟨_, rfl⟩
  obtain ⟨k3, hk3⟩ : ∃ k3, k3 = putL k2 l := ⟨_, rfl⟩
  have hl1 : k1.length = 2 := by rw [hk1]; simp [numTo_length]
  have hl2 : k2.length = 3 := by rw [hk2]; simp [numTo_length, hl1]
  have hl3 : k3.length = 7 + l.length := by rw [hk3, putL_length, hl2]
  have h1 : ∀ W, Calls Tryz.prog 32 #[.string ⟨#[109]⟩, .int .i64 1, .int .u64 (kind : Int)] W fun e w' => e = .returned (.string (bs k1)) ∧ Below W.heap.size W w' := fun W => by
    rw [hk1]; exact putNumber_any W ⟨#[109]⟩ 1 (kind : Int) (by omega) (by omega) (by decide) (by omega) (by omega)
  have h2 : ∀ W, Calls Tryz.prog 32 #[.string (bs k1), .int .i64 1, .int .u64 (n : Int)] W fun e w' => e = .returned (.string (bs k2)) ∧ Below W.heap.size W w' := fun W => by
    rw [hk2]; exact putNumber_any W (bs k1) 1 (n : Int) (by omega) (by omega) (by rw [bs_size, hl1]; omega) (by omega) (by omega)
  have h3 : ∀ W, Calls Tryz.prog 88 #[.string (bs k2), .string (bs l)] W fun e w' => e = .returned (.string (bs k3)) ∧ Below W.heap.size W w' := fun W => by
    rw [hk3]; exact putText_any W (bs k2) (bs l) (by rw [bs_size, hl2]; omega) (by rw [bs_size]; omega)
  have HK : Hid (Node.key (.made kind n l ps) = partsL k3 ps) := by
    show Node.key (.made kind n l ps) = partsL k3 ps
    rw [hk3, hk2, hk1]; rfl
  obtain ⟨t1, ht1⟩ : ∃ t1, t1 = bs k1 := ⟨_, rfl⟩
  obtain ⟨t2, ht2⟩ : ∃ t2, t2 = bs k2 := ⟨_, rfl⟩
  obtain ⟨t3, ht3⟩ : ∃ t3, t3 = bs k3 := ⟨_, rfl⟩
  obtain ⟨tl, htl⟩ : ∃ tl, tl = bs l := ⟨_, rfl⟩
  have HT3 : Hid (t3 = bs k3) := ht3
  rw [← ht1] at h1 h2
  rw [← ht2] at h2 h3
  rw [← ht3, ← htl] at h3
  rw [← htl] at L2 ⊢
  have HB3 : Hid (w1.cell? ⟨w.heap.size, 3, none⟩ = some (.slice A ps.length c)) := hB1.cell 3
  clear hk1 hk2 hk3 hl1 hl2 ht1 ht2 ht3 htl hB1
  refine wp_region_later (by kernel_rfl) (by kernel_rfl) ?_
  iterate 3 (go_big_quiet_step (fail))
  go_big_quiet_step ((go_at_call 32; exact later_of (h1 _)))
  iterate 3 (go_big_quiet_step (fail))
  go_big_quiet_step ((go_at_call 32; exact later_of (h2 _)))
  iterate 2 (go_big_quiet_step (fail))
  go_big_quiet_step ((go_at_call 88; exact later_of (h3 _)))
  go_big_quiet_step (fail)
  refine wpQuiet_nil ?_
  intro _ hw'
  obtain ⟨x, hw''⟩ := hw'
  subst hw''
  have hbw1 : Hid (w1.heap.size ≤ x.v.heap.size) := x.h.size
  have b2 := b1.trans (x.h.mono b1.size)
  have hR := (Reads.of_own ho1).below x.h
  have C3 : x.v.cell? ⟨w.heap.size, 3, none⟩ = some (.slice A ps.length c) := Below.cell_some x.h HB3.out
  clear L0 L1 L2 h1 h2 h3 ho1 HW1
  obtain ⟨we, x⟩ := x
  simp only at *
  clear x
  go_wp2_with fail
  go_loopw [3, 20] (fun s i wr => ∃ k : Nat, k ≤ ps.length ∧ i = .int .i64 k ∧ s = .string (bs (partsL k3 (ps.take k))) ∧ Below w1.heap.size we wr ∧ Below w.heap.size w wr) (fun _ i _ => ps.length - (intOf i).toNat)
  case atStart => exact ⟨0, by omega, rfl, by rw [HT3.out]; rfl, Below.refl _ _, b2⟩
  case round =>
    obtain ⟨k, hk', rfl, rfl, hbr, hbw⟩ := hrel
    by_cases hkn : k < ps.length
    · have hkd : decide ((k : Int) < (ps.length : Int)) = true := by simp; omega
      obtain ⟨bk, o, hA, hbk, hcell⟩ := (hR.below hbr).addr (by omega)
      subst hA
      have hc := hcell k (.int .i64 (ps[k] : Nat)) (by simp [hkn])
      have HPP : Hid (partsL k3 (ps.take (k + 1)) = partsL k3 (ps.take k) ++ numTo (ps[k] : Nat) 4 4) := by
        show partsL k3 (ps.take (k + 1)) = _
        rw [List.take_succ_eq_append_getElem hkn, partsL_snoc]
      have hpk := hp ps[k] (List.getElem_mem hkn)
      have hlen := partsL_length (ps.take k) k3
      have hlt : (ps.take k).length ≤ 1000 := by rw [List.length_take]; omega
      have hput := putNumber_any wr (bs (partsL k3 (ps.take k))) 4 (ps[k] : Nat) (by omega) (by omega) (by rw [bs_size]; omega) (by omega) (by omega)
      clear hcell
      go_wp2_with fail
      refine hput.mono ?_
      rintro e w' ⟨rfl, b3⟩
      clear hput
      go_wp2
      go_roundw
      case rel => exact ⟨k + 1, by omega, by go_num, by rw [HPP.out]; rfl, hbr.trans (b3.mono (Nat.le_trans hbw1.out hbr.size)), hbw.trans (b3.mono hbw.size)⟩
      case measure => simp [intOf]; omega
    · have hkd : decide ((k : Int) < (ps.length : Int)) = false := by simp; omega
      obtain rfl : k = ps.length := by omega
      rw [List.take_length]
      go_wp2
      go_ret
      exact ⟨by rw [HK.out]; rfl, hbw⟩
end Go.Proofs.YtipehnojibdfeaaGreat
