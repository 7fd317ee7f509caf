/- The contract of the cipher's encipher, whole. -/
import Derived.Test.YtipehnojibdfeaaGreatAes3
namespace Go.Proofs.YtipehnojibdfeaaGreat
open Go Go.Proofs Go.RowKit

theorem wpList_load_blk {P : Program} {ops : Array Oper} {rest : List Oper} {o : Oper} {a : Act} {w : World} {Q : Exit → Act → World → Prop} (hgd : o.guard = none) (ty : TypeId) (x : Operand) (ho : o.op = .load ty x)
    (g : Nat) (hx : a.eval x = .pointer (some ⟨g, 0, none⟩)) (t : TypeId) (cs : Array Value) (d : TypeDesc) (hg : Blk w g t cs)
    (hu : P.underlying ty = some d) (hd : (match d with | .struct _ | .array _ _ => true | _ => false) = true) (hi : (P.info? ty).map (·.size) = some cs.size)
    (h : wpList P ops Q rest (a.put o.dst (.agg cs)) w) : wpList P ops Q (o :: rest) a w :=
  wpList_load_row hgd ty x ho g hx t cs (0, 0) d hg hu hd hi h
theorem cipher_info : (Tryz.prog.info? 146).map (·.size) = some 16 := by kernel_rfl
theorem row16_zero (w : World) : (w.alloc (.cells #[.int .u8 0, .int .u8 0, .int .u8 0, .int .u8 0, .int .u8 0, .int .u8 0, .int .u8 0, .int .u8 0, .int .u8 0, .int .u8 0, .int .u8 0, .int .u8 0, .int .u8 0, .int .u8 0, .int .u8 0, .int .u8 0] 146)).rowIs w.heap.size 146 16 (fun _ => .int .u8 0) :=
  bk16_rowIs (s := fun _ => 0) (Blk.new w _ _)

set_option maxRecDepth 100000 in
set_option maxHeartbeats 4000000 in
theorem enc_round (w : World) (cB sB r : Nat) (hr : r < 14) (c s : Nat → Int) (hne : cB ≠ sB) (hsr : ∀ i, i < 16 → 0 ≤ s i ∧ s i < 256) (hC : w.rowIs cB 162 240 (fun i => .int .u8 (c i))) (hS : w.rowIs sB 146 16 (fun i => .int .u8 (s i)))
    {c1 c2 c4 i5 i6 i7 i8 i9 c10 c11 c13 i14 i15 i16 i17 i18 i19 i20 i21 i22 i23 i24 i25 i26 i27 i28 i29 i30 i31 i32 i33 i34 i35 i36 i37 i38 i39 i40 i41 i42 i43 i44 i45 i46 i47 c48 c49 : Value}
    (Q : Exit → Act → World → Prop) (hQ : ∀ (u5 u6 u7 u8 u9 u14 u15 u16 u17 u18 u19 u20 u21 u22 u23 u24 u25 u26 u27 u28 u29 u30 u31 u32 u33 u34 u35 u36 u37 u38 u39 u40 u41 u42 u43 u44 u45 u46 u47 : Value) (w' : World), w'.rowIs sB 146 16 (fun j => .int .u8 (roundE c s r j)) ∧ w.grownBy w' (some sB) → Q .normal ⟨(.pointer (some ⟨cB, 0, none⟩) :: c1 :: c2 :: .pointer (some ⟨sB, 0, none⟩) :: c4 :: u5 :: u6 :: u7 :: u8 :: u9 :: c10 :: c11 :: .int .i64 r :: c13 :: u14 :: u15 :: u16 :: u17 :: u18 :: u19 :: u20 :: u21 :: u22 :: u23 :: u24 :: u25 :: u26 :: u27 :: u28 :: u29 :: u30 :: u31 :: u32 :: u33 :: u34 :: u35 :: u36 :: u37 :: u38 :: u39 :: u40 :: u41 :: u42 :: u43 :: u44 :: u45 :: u46 :: u47 :: c48 :: c49 :: []).toArray, []⟩ w') :
    (codeBlock 1 Tryz.f104).wp Tryz.prog Q ⟨(.pointer (some ⟨cB, 0, none⟩) :: c1 :: c2 :: .pointer (some ⟨sB, 0, none⟩) :: c4 :: i5 :: i6 :: i7 :: i8 :: i9 :: c10 :: c11 :: .int .i64 r :: c13 :: i14 :: i15 :: i16 :: i17 :: i18 :: i19 :: i20 :: i21 :: i22 :: i23 :: i24 :: i25 :: i26 :: i27 :: i28 :: i29 :: i30 :: i31 :: i32 :: i33 :: i34 :: i35 :: i36 :: i37 :: i38 :: i39 :: i40 :: i41 :: i42 :: i43 :: i44 :: i45 :: i46 :: i47 :: c48 :: c49 :: []).toArray, []⟩ w := by
  conv => arg 2; whnf
  have hcl := hC.lt
  have hsl := hS.lt
  go_upto_block 2 with (fail)
  have hT1 := row16_zero w
  have hS1 := hS.alloc (.cells #[.int .u8 0, .int .u8 0, .int .u8 0, .int .u8 0, .int .u8 0, .int .u8 0, .int .u8 0, .int .u8 0, .int .u8 0, .int .u8 0, .int .u8 0, .int .u8 0, .int .u8 0, .int .u8 0, .int .u8 0, .int .u8 0] 146)
  refine enc_sub _ sB w.heap.size s (fun _ => 0) (by omega) hsr hS1 hT1 _ ?_
  intros
  rename_i w1 h1
  obtain ⟨hT, g1⟩ := h1
  have b1 : Below w.heap.size w w1 := ((Below.refl _ _).alloc (Nat.le_refl _) _).trans (below_of_grownBy g1 (Nat.le_refl _) (by simp))
  have hCr := rowIs_later hC b1
  have hSr := rowIs_later hS b1
  clear hT1 hS1 g1
  obtain ⟨tB, htB⟩ : ∃ tB, tB = w.heap.size := ⟨_, rfl⟩
  rw [← htB] at hT hcl hsl
  simp only [← htB]
  have htB' : w.heap.size ≤ tB := by omega
  have htB2 : tB ≤ w.heap.size := by omega
  clear htB
  have htl := hT.lt
  by_cases hr13 : r < 13
  · have hrd : decide ((r : Int) < 13) = true := by simp; omega
    go_upto_block 4 with (fail)
    refine enc_mix _ tB (subT s) hT _ ?_
    intros
    rename_i w2 h2
    obtain ⟨hT2, g2⟩ := h2
    have hC2 := rowIs_grown hCr g2 (by simp; omega)
    have hS2 := rowIs_grown hSr g2 (by simp; omega)
    have b2 : Below w.heap.size w w2 := b1.trans (below_of_grownBy g2 htB' (by omega))
    clear hT hCr hSr g2 b1 htl
    go_wp2_with fail
    have ha := add_any w2 cB tB (r + 1) (by omega) c _ (by omega) hC2 hT2
    rw [Int.natCast_succ] at ha
    with_reducible refine ha.mono ?_
    rintro e w3 ⟨rfl, hT3, g3⟩
    clear ha
    have hS3 := rowIs_grown hS2 g3 (by simp; omega)
    have b3 : Below w.heap.size w w3 := b2.trans (below_of_grownBy g3 htB' (by have := hT2.lt; omega))
    have hb3 := rowIs_bk16 hT3
    have hs3 := rowIs_bk16 hS3
    have hi1 : (Tryz.prog.info? 146).map (·.size) = some (bk16 (addK c (r + 1) (mix4 (subT s)) 16)).size := by rw [bk16_size]; exact cipher_info
    clear hT2 hS2 hC2 b2 hT3 hS3
    go_wp2_with (first
      | ((with_reducible refine wpList_load_blk (o := ⟨some 47, .load _ _, _, _, _, _⟩) rfl 146 (.tmp 6) rfl tB rfl 146 _ _ hb3 Tryz.underlying146 rfl hi1 ?_))
      | ((with_reducible refine wpList_store_row (op := ⟨none, .store _ _ _, _, _, _, _⟩) rfl 146 (.tmp 3) (.tmp 47) rfl sB 146 _ _ rfl rfl hs3 hi1 (by rw [bk16_size, bk16_size]) (bk16_all _) ?_)))
    have e : roundE c s r = addK c (r + 1) (mix4 (subT s)) 16 := by rw [roundE, if_pos hr13]
    rw [e]
    exact ⟨bk16_rowIs (hs3.setRow _), grownBy_setRow (grownBy_of_below b3 _) _⟩
  · have hrd : decide ((r : Int) < 13) = false := by simp; omega
    go_wp2_with fail
    have ha := add_any w1 cB tB (r + 1) (by omega) c _ (by omega) hCr hT
    rw [Int.natCast_succ] at ha
    with_reducible refine ha.mono ?_
    rintro e w3 ⟨rfl, hT3, g3⟩
    clear ha
    have hS3 := rowIs_grown hSr g3 (by simp; omega)
    have b3 : Below w.heap.size w w3 := b1.trans (below_of_grownBy g3 htB' (by omega))
    have hb3 := rowIs_bk16 hT3
    have hs3 := rowIs_bk16 hS3
    have hi1 : (Tryz.prog.info? 146).map (·.size) = some (bk16 (addK c (r + 1) (subT s) 16)).size := by rw [bk16_size]; exact cipher_info
    clear hT hSr hCr b1 hT3 hS3
    go_wp2_with (first
      | ((with_reducible refine wpList_load_blk (o := ⟨some 47, .load _ _, _, _, _, _⟩) rfl 146 (.tmp 6) rfl tB rfl 146 _ _ hb3 Tryz.underlying146 rfl hi1 ?_))
      | ((with_reducible refine wpList_store_row (op := ⟨none, .store _ _ _, _, _, _, _⟩) rfl 146 (.tmp 3) (.tmp 47) rfl sB 146 _ _ rfl rfl hs3 hi1 (by rw [bk16_size, bk16_size]) (bk16_all _) ?_)))
    have e : roundE c s r = addK c (r + 1) (subT s) 16 := by rw [roundE, if_neg hr13]
    rw [e]
    exact ⟨bk16_rowIs (hs3.setRow _), grownBy_setRow (grownBy_of_below b3 _) _⟩

set_option maxRecDepth 100000 in
set_option maxHeartbeats 4000000 in
theorem enc_rounds (w : World) (cB sB : Nat) (c s : Nat → Int) (hne : cB ≠ sB) (hC : w.rowIs cB 162 240 (fun i => .int .u8 (c i))) (hS0 : w.rowIs sB 146 16 (fun i => .int .u8 (roundsE c s 0 i)))
    {c1 c2 c4 i5 i6 i7 i8 i9 c10 c11 i13 i14 i15 i16 i17 i18 i19 i20 i21 i22 i23 i24 i25 i26 i27 i28 i29 i30 i31 i32 i33 i34 i35 i36 i37 i38 i39 i40 i41 i42 i43 i44 i45 i46 i47 i48 c49 : Value}
    (Q : Exit → Act → World → Prop) (hQ : ∀ (u5 u6 u7 u8 u9 u12 u13 u14 u15 u16 u17 u18 u19 u20 u21 u22 u23 u24 u25 u26 u27 u28 u29 u30 u31 u32 u33 u34 u35 u36 u37 u38 u39 u40 u41 u42 u43 u44 u45 u46 u47 u48 : Value) (w' : World), w'.rowIs sB 146 16 (fun j => .int .u8 (encF c s j)) ∧ w.grownBy w' (some sB) → Q .normal ⟨(.pointer (some ⟨cB, 0, none⟩) :: c1 :: c2 :: .pointer (some ⟨sB, 0, none⟩) :: c4 :: u5 :: u6 :: u7 :: u8 :: u9 :: c10 :: c11 :: u12 :: u13 :: u14 :: u15 :: u16 :: u17 :: u18 :: u19 :: u20 :: u21 :: u22 :: u23 :: u24 :: u25 :: u26 :: u27 :: u28 :: u29 :: u30 :: u31 :: u32 :: u33 :: u34 :: u35 :: u36 :: u37 :: u38 :: u39 :: u40 :: u41 :: u42 :: u43 :: u44 :: u45 :: u46 :: u47 :: u48 :: c49 :: []).toArray, []⟩ w') :
    (codeBlock 0 Tryz.f104).wp Tryz.prog Q ⟨(.pointer (some ⟨cB, 0, none⟩) :: c1 :: c2 :: .pointer (some ⟨sB, 0, none⟩) :: c4 :: i5 :: i6 :: i7 :: i8 :: i9 :: c10 :: c11 :: .int .i64 0 :: i13 :: i14 :: i15 :: i16 :: i17 :: i18 :: i19 :: i20 :: i21 :: i22 :: i23 :: i24 :: i25 :: i26 :: i27 :: i28 :: i29 :: i30 :: i31 :: i32 :: i33 :: i34 :: i35 :: i36 :: i37 :: i38 :: i39 :: i40 :: i41 :: i42 :: i43 :: i44 :: i45 :: i46 :: i47 :: i48 :: c49 :: []).toArray, []⟩ w := by
  conv => arg 2; whnf
  go_wp2_with fail
  go_loopw [12] (fun i wr => ∃ r : Nat, r ≤ 14 ∧ i = .int .i64 r ∧ wr.rowIs sB 146 16 (fun i => .int .u8 (roundsE c s r i)) ∧ w.grownBy wr (some sB)) (fun i _ => 14 - (intOf i).toNat)
  case atStart => exact ⟨0, by omega, rfl, hS0, grownBy_refl _ _⟩
  case round =>
    clear hS0
    obtain ⟨r, hr, rfl, hS, hb⟩ := hrel
    by_cases hr14 : r < 14
    · have hCr := rowIs_grown hC hb (by simp; omega)
      have hrd : decide ((r : Int) < 14) = true := by simp; omega
      have hsr := roundsE_in c s r
      go_upto_block 1 with (fail)
      refine enc_round _ cB sB r hr14 c _ hne hsr hCr hS _ ?_
      intros
      rename_i w1 h1
      obtain ⟨hS1, g1⟩ := h1
      have hb2 := grownBy_trans hb g1
      clear hS hb g1 hsr hCr
      go_wp2
      go_roundw
      case rel => exact ⟨r + 1, by omega, by go_num, hS1, hb2⟩
      case measure => simp [intOf]; omega
    · obtain rfl : r = 14 := by omega
      go_wp2
      exact ⟨hS, hb⟩

set_option maxRecDepth 100000 in
set_option maxHeartbeats 2000000 in
theorem encipher_any (w : World) (cB : Nat) (c s : Nat → Int) (hC : w.rowIs cB 162 240 (fun i => .int .u8 (c i))) :
    Calls Tryz.prog 104 #[.pointer (some ⟨cB, 0, none⟩), .agg (bk16 s)] w fun e w' => e = .returned (.agg (bk16 (encF c s))) ∧ Below w.heap.size w w' := by
  have hcl := hC.lt
  go_enter Tryz.func104, Tryz.ntmps104
  go_wp2_with fail
  have hS0 : (w.alloc (.cells (bk16 s) 146)).rowIs w.heap.size 146 16 (fun i => .int .u8 (s i)) := bk16_rowIs (Blk.new _ _ _)
  have hS1 := hS0.alloc (.cells #[.int .u8 0, .int .u8 0, .int .u8 0, .int .u8 0, .int .u8 0, .int .u8 0, .int .u8 0, .int .u8 0, .int .u8 0, .int .u8 0, .int .u8 0, .int .u8 0, .int .u8 0, .int .u8 0, .int .u8 0, .int .u8 0] 146)
  have hR1 := row16_zero (w.alloc (.cells (bk16 s) 146))
  have q1 : Below w.heap.size w ((w.alloc (.cells (bk16 s) 146)).alloc (.cells #[.int .u8 0, .int .u8 0, .int .u8 0, .int .u8 0, .int .u8 0, .int .u8 0, .int .u8 0, .int .u8 0, .int .u8 0, .int .u8 0, .int .u8 0, .int .u8 0, .int .u8 0, .int .u8 0, .int .u8 0, .int .u8 0] 146)) := ((Below.refl _ _).alloc (Nat.le_refl _) _).alloc (by simp) _
  have hC1 := rowIs_later hC q1
  obtain ⟨w1, hw1⟩ : ∃ w1, w1 = (w.alloc (.cells (bk16 s) 146)).alloc (.cells #[.int .u8 0, .int .u8 0, .int .u8 0, .int .u8 0, .int .u8 0, .int .u8 0, .int .u8 0, .int .u8 0, .int .u8 0, .int .u8 0, .int .u8 0, .int .u8 0, .int .u8 0, .int .u8 0, .int .u8 0, .int .u8 0] 146) := ⟨_, rfl⟩
  rw [← hw1] at hS1 hR1 q1 hC1
  rw [← hw1]
  clear hw1 hS0
  rw [World.size_alloc] at hR1
  obtain ⟨sB, hsB⟩ : ∃ sB, sB = w.heap.size := ⟨_, rfl⟩
  rw [← hsB] at hS1 hR1 hcl
  simp only [← hsB]
  have hsB' : w.heap.size ≤ sB := by omega
  have hsB2 : sB ≤ w.heap.size := by omega
  clear hsB
  have hcne : cB ≠ sB := by omega
  have ha := add_any w1 cB sB 0 (by omega) c _ hcne hC1 hS1
  rw [Int.natCast_zero] at ha
  with_reducible refine ha.mono ?_
  rintro e w2 ⟨rfl, hS2, g2⟩
  have hC2 := rowIs_grown hC1 g2 (by simp; omega)
  have hR2 := rowIs_grown hR1 g2 (by simp)
  have b2 : Below w.heap.size w w2 := q1.trans (below_of_grownBy g2 hsB' q1.size)
  clear ha hS1 hR1 hC1 q1 g2
  have hS2' : w2.rowIs sB 146 16 (fun i => .int .u8 (roundsE c s 0 i)) := hS2
  go_upto_block 0 with (fail)
  refine enc_rounds _ cB sB c s hcne hC2 hS2' _ ?_
  intros
  rename_i w3 h3
  obtain ⟨hS3, g3⟩ := h3
  have hR3 := rowIs_grown hR2 g3 (by simp)
  have b3 : Below w.heap.size w w3 := b2.trans (below_of_grownBy g3 hsB' b2.size)
  have hs3 := rowIs_bk16 hS3
  have hr3 := rowIs_bk16 (s := fun _ => 0) hR3
  have hi1 : (Tryz.prog.info? 146).map (·.size) = some (bk16 (encF c s)).size := by rw [bk16_size]; exact cipher_info
  clear hS2 hS2' hC2 hR2 b2 g3 hS3 hR3
  go_wp2_with (first
    | ((with_reducible refine wpList_load_blk (o := ⟨some 49, .load _ _, _, _, _, _⟩) rfl 146 (.tmp 3) rfl sB rfl 146 _ _ hs3 Tryz.underlying146 rfl hi1 ?_))
    | ((with_reducible refine wpList_store_row (op := ⟨none, .store _ _ _, _, _, _, _⟩) rfl 146 (.tmp 4) (.tmp 49) rfl (sB + 1) 146 _ _ rfl rfl hr3 hi1 (by rw [bk16_size, bk16_size]) (bk16_all _) ?_)))
  refine bodyPost_ret (results_cell_row rfl _ _ (sB + 1) 146 (bk16 (encF c s)) (0, 0) _ rfl (hr3.setRow _) Tryz.underlying146 rfl hi1) rfl ?_
  exact ⟨rfl, below_setRow' b3 (by omega) _⟩
end Go.Proofs.YtipehnojibdfeaaGreat
