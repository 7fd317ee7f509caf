/- The contract of aes's keys: it computes its Lean twin. -/
import Derived.Test.YtipehnojibdfeaaGreatAes5
namespace Go.Proofs.YtipehnojibdfeaaGreat
open Go Go.Proofs Go.RowKit

theorem row4_of (w : World) (t : Nat → Int) : (w.alloc (.cells #[.int .u8 (t 0), .int .u8 (t 1), .int .u8 (t 2), .int .u8 (t 3)] 160)).rowIs w.heap.size 160 4 (fun i => .int .u8 (t i)) :=
  World.rowIs_alloc w _ _ _ (fun i hi => by have : i < 4 := hi; match i, this with | 0, _ => rfl | 1, _ => rfl | 2, _ => rfl | 3, _ => rfl)
theorem kt1_in (c : Nat → Int) (hc : ∀ j, 0 ≤ c j ∧ c j < 256) (i k : Nat) : 0 ≤ kt1 c i k ∧ kt1 c i k < 256 := by
  unfold kt1; split <;> exact hc _

set_option maxRecDepth 100000 in
set_option maxHeartbeats 4000000 in
theorem keys_round (w : World) (cB i : Nat) (hi : 8 ≤ i) (hi2 : i < 60) (c : Nat → Int) (p : Int) (hp0 : 0 ≤ p) (hp1 : p < 256) (hc : ∀ j, 0 ≤ c j ∧ c j < 256) (hC : w.rowIs cB 162 240 (fun j => .int .u8 (c j)))
    {c0 c1 c2 c4 i7 i8 i9 c10 c11 c12 c13 c14 c15 c16 c17 c18 c19 c20 c21 c22 c23 c24 c25 c26 c27 c28 i29 i30 i31 i32 i33 i34 i35 i36 i37 i38 i39 i40 i41 i42 i43 i44 i45 i46 i47 i48 i49 i50 i51 i52 i53 i54 i55 i56 i57 i58 i59 i60 i61 i62 i63 i64 i65 i66 i67 i68 i69 i70 i71 i72 i73 i74 i75 i76 i77 i78 i79 i80 i81 i82 i83 i84 i85 i86 : Value}
    (Q : Exit → Act → World → Prop) (hQ : ∀ (u5 u7 u8 u9 u29 u30 u31 u32 u33 u34 u35 u36 u37 u38 u39 u40 u41 u42 u43 u44 u45 u46 u47 u48 u49 u50 u51 u52 u53 u54 u55 u56 u57 u58 u59 u60 u61 u62 u63 u64 u65 u66 u67 u68 u69 u70 u71 u72 u73 u74 u75 u76 u77 u78 u79 u80 u81 u82 u83 u84 u85 u86 : Value) (w' : World), u5 = .int .u8 (kstep (c, p) i).2 ∧ w'.rowIs cB 162 240 (fun j => .int .u8 ((kstep (c, p) i).1 j)) ∧ w.grownBy w' (some cB) → Q .normal ⟨(c0 :: c1 :: c2 :: .pointer (some ⟨cB, 0, none⟩) :: c4 :: u5 :: .int .i64 i :: u7 :: u8 :: u9 :: c10 :: c11 :: c12 :: c13 :: c14 :: c15 :: c16 :: c17 :: c18 :: c19 :: c20 :: c21 :: c22 :: c23 :: c24 :: c25 :: c26 :: c27 :: c28 :: u29 :: u30 :: u31 :: u32 :: u33 :: u34 :: u35 :: u36 :: u37 :: u38 :: u39 :: u40 :: u41 :: u42 :: u43 :: u44 :: u45 :: u46 :: u47 :: u48 :: u49 :: u50 :: u51 :: u52 :: u53 :: u54 :: u55 :: u56 :: u57 :: u58 :: u59 :: u60 :: u61 :: u62 :: u63 :: u64 :: u65 :: u66 :: u67 :: u68 :: u69 :: u70 :: u71 :: u72 :: u73 :: u74 :: u75 :: u76 :: u77 :: u78 :: u79 :: u80 :: u81 :: u82 :: u83 :: u84 :: u85 :: u86 :: []).toArray, []⟩ w') :
    (codeBlock 3 Tryz.f103).wp Tryz.prog Q ⟨(c0 :: c1 :: c2 :: .pointer (some ⟨cB, 0, none⟩) :: c4 :: .int .u8 p :: .int .i64 i :: i7 :: i8 :: i9 :: c10 :: c11 :: c12 :: c13 :: c14 :: c15 :: c16 :: c17 :: c18 :: c19 :: c20 :: c21 :: c22 :: c23 :: c24 :: c25 :: c26 :: c27 :: c28 :: i29 :: i30 :: i31 :: i32 :: i33 :: i34 :: i35 :: i36 :: i37 :: i38 :: i39 :: i40 :: i41 :: i42 :: i43 :: i44 :: i45 :: i46 :: i47 :: i48 :: i49 :: i50 :: i51 :: i52 :: i53 :: i54 :: i55 :: i56 :: i57 :: i58 :: i59 :: i60 :: i61 :: i62 :: i63 :: i64 :: i65 :: i66 :: i67 :: i68 :: i69 :: i70 :: i71 :: i72 :: i73 :: i74 :: i75 :: i76 :: i77 :: i78 :: i79 :: i80 :: i81 :: i82 :: i83 :: i84 :: i85 :: i86 :: []).toArray, []⟩ w := by
  conv => arg 2; whnf
  have hcl := hC.lt
  have C0 := hC.cell (i := (i - 1) * 4) (by omega)
  have C1 := hC.cell (i := (i - 1) * 4 + 1) (by omega)
  have C2 := hC.cell (i := (i - 1) * 4 + 2) (by omega)
  have C3 := hC.cell (i := (i - 1) * 4 + 3) (by omega)
  have hne : ¬ cB = w.heap.size := by omega
  by_cases h0 : i % 8 = 0
  · have t0 : ((i : Int) % 8 == 0) = true := by rw [beq_iff_eq]; omega
    have H0 : Hid (i % 8 = 0) := h0
    clear h0
    go_upto_block 7 with (fail)
    have hT1 := row4_of w (kt1 c i)
    have e1 : kt1 c i = fun k => kt0 c i ((k + 1) % 4) := by rw [kt1, if_pos H0.out]
    have hT1' : (w.alloc (.cells #[.int .u8 (c ((i - 1) * 4 + 1)), .int .u8 (c ((i - 1) * 4 + 2)), .int .u8 (c ((i - 1) * 4 + 3)), .int .u8 (c ((i - 1) * 4))] 160)).rowIs w.heap.size 160 4 (fun i_1 => .int .u8 (kt1 c i i_1)) := by
      have := hT1
      rw [e1] at this ⊢
      exact this
    have hC1 := hC.alloc (.cells #[.int .u8 (c ((i - 1) * 4 + 1)), .int .u8 (c ((i - 1) * 4 + 2)), .int .u8 (c ((i - 1) * 4 + 3)), .int .u8 (c ((i - 1) * 4))] 160)
    obtain ⟨w1, hw1⟩ : ∃ w1, w1 = w.alloc (.cells #[.int .u8 (c ((i - 1) * 4 + 1)), .int .u8 (c ((i - 1) * 4 + 2)), .int .u8 (c ((i - 1) * 4 + 3)), .int .u8 (c ((i - 1) * 4))] 160) := ⟨_, rfl⟩
    have q1 : Below w.heap.size w w1 := by rw [hw1]; exact (Below.refl _ _).alloc (Nat.le_refl _) _
    rw [← hw1] at hT1' hC1
    rw [← hw1]
    clear hw1 hT1 e1 C0 C1 C2 C3
    obtain ⟨tB, htB⟩ : ∃ tB, tB = w.heap.size := ⟨_, rfl⟩
    rw [← htB] at hT1' hcl hne
    simp only [← htB]
    have htB' : w.heap.size ≤ tB := by omega
    clear htB
    refine keys_sub _ tB (kt1 c i) (fun k _ => kt1_in c hc i k) hT1' _ ?_
    intros
    rename_i w2 h2
    obtain ⟨hT2, g2⟩ := h2
    have hC2 := rowIs_grown hC1 g2 (by simp; omega)
    have b2 : Below w.heap.size w w2 := q1.trans (below_of_grownBy g2 htB' q1.size)
    have f0 := hT2.cell (i := 0) (by omega)
    have f1 := hT2.frozen 0
    clear hT1' hC1 q1 g2
    go_wp2_with fail
    with_reducible refine (twice_any _ p hp0 hp1).mono ?_
    rintro e w3 ⟨rfl, n3, rfl⟩
    have hT3 : ((w2.setCell ⟨tB, 0, none⟩ (.int .u8 (bits .xor .u8 (sbox (kt1 c i 0)) p))).drewN n3).rowIs tB 160 4 (fun k => .int .u8 (kt3 c p i k)) :=
      World.rowIs.congr (World.rowIs.of_block (hT2.set 0 _) rfl) (fun k hk => by
        have e2 : kt2 c i = fun k => sbox (kt1 c i k) := by rw [kt2, if_pos (Or.inl H0.out)]
        by_cases h : k = 0
        · subst h; simp [kt3, H0.out, e2, upd, xor8]
        · simp [kt3, H0.out, e2, upd, h])
    have hC3 : ((w2.setCell ⟨tB, 0, none⟩ (.int .u8 (bits .xor .u8 (sbox (kt1 c i 0)) p))).drewN n3).rowIs cB 162 240 (fun j => .int .u8 (c j)) := World.rowIs.of_block (hC2.setOther (by simp; omega) _) rfl
    have b3 : Below w.heap.size w ((w2.setCell ⟨tB, 0, none⟩ (.int .u8 (bits .xor .u8 (sbox (kt1 c i 0)) p))).drewN n3) := below_drewN' (b2.setCell htB' _) _
    clear hT2 hC2 b2 f0 f1
    go_upto_block 9 with (fail)
    refine keys_lay _ cB tB i hi hi2 (by omega) c _ hT3 hC3 _ ?_
    intros
    rename_i w4 h4
    obtain ⟨hC4, g4⟩ := h4
    have g5 : w.grownBy w4 (some cB) := grownBy_trans (grownBy_of_below b3 _) g4
    clear hT3 hC3 b3 g4 hC
    have e5 : (kstep (c, p) i).2 = twice8 p := by simp [kstep, H0.out]
    have e6 : (kstep (c, p) i).1 = kcT c (kt3 c p i) i 4 := rfl
    have HE5 : Hid ((kstep (c, p) i).2 = twice8 p) := e5
    have HE6 : Hid ((kstep (c, p) i).1 = kcT c (kt3 c p i) i 4) := e6
    clear e5 e6
    go_wp2
    exact ⟨by rw [HE5.out], by rw [HE6.out]; exact hC4, g5⟩
  · have t0 : ((i : Int) % 8 == 0) = false := by rw [beq_eq_false_iff_ne]; omega
    have H0 : Hid (¬ i % 8 = 0) := h0
    clear h0
    have e5 : (kstep (c, p) i).2 = p := by simp [kstep, H0.out]
    have e6 : (kstep (c, p) i).1 = kcT c (kt3 c p i) i 4 := rfl
    have e7 : kt1 c i = kt0 c i := by rw [kt1, if_neg H0.out]
    have HE5 : Hid ((kstep (c, p) i).2 = p) := e5
    have HE6 : Hid ((kstep (c, p) i).1 = kcT c (kt3 c p i) i 4) := e6
    have HE7 : Hid (kt1 c i = kt0 c i) := e7
    clear e5 e6 e7
    by_cases h4 : i % 8 = 4
    · have t4 : ((i : Int) % 8 == 4) = true := by rw [beq_iff_eq]; omega
      have H4 : Hid (i % 8 = 4) := h4
      clear h4
      go_upto_block 7 with (fail)
      have hT1 := row4_of w (kt0 c i)
      have hT1' : (w.alloc (.cells #[.int .u8 (c ((i - 1) * 4)), .int .u8 (c ((i - 1) * 4 + 1)), .int .u8 (c ((i - 1) * 4 + 2)), .int .u8 (c ((i - 1) * 4 + 3))] 160)).rowIs w.heap.size 160 4 (fun i_1 => .int .u8 (kt1 c i i_1)) := by
        have := hT1
        rw [HE7.out]
        exact this
      have hC1 := hC.alloc (.cells #[.int .u8 (c ((i - 1) * 4)), .int .u8 (c ((i - 1) * 4 + 1)), .int .u8 (c ((i - 1) * 4 + 2)), .int .u8 (c ((i - 1) * 4 + 3))] 160)
      obtain ⟨w1, hw1⟩ : ∃ w1, w1 = w.alloc (.cells #[.int .u8 (c ((i - 1) * 4)), .int .u8 (c ((i - 1) * 4 + 1)), .int .u8 (c ((i - 1) * 4 + 2)), .int .u8 (c ((i - 1) * 4 + 3))] 160) := ⟨_, rfl⟩
      have q1 : Below w.heap.size w w1 := by rw [hw1]; exact (Below.refl _ _).alloc (Nat.le_refl _) _
      rw [← hw1] at hT1' hC1
      rw [← hw1]
      clear hw1 hT1 C0 C1 C2 C3
      obtain ⟨tB, htB⟩ : ∃ tB, tB = w.heap.size := ⟨_, rfl⟩
      rw [← htB] at hT1' hcl hne
      simp only [← htB]
      have htB' : w.heap.size ≤ tB := by omega
      clear htB
      refine keys_sub _ tB (kt1 c i) (fun k _ => kt1_in c hc i k) hT1' _ ?_
      intros
      rename_i w2 h2
      obtain ⟨hT2, g2⟩ := h2
      have hC2 := rowIs_grown hC1 g2 (by simp; omega)
      have b2 : Below w.heap.size w w2 := q1.trans (below_of_grownBy g2 htB' q1.size)
      have hT3 : w2.rowIs tB 160 4 (fun k => .int .u8 (kt3 c p i k)) := hT2.congr (fun k hk => by
        have e2 : kt2 c i = fun k => sbox (kt1 c i k) := by rw [kt2, if_pos (Or.inr H4.out)]
        simp [kt3, H0.out, e2])
      clear hT1' hC1 q1 g2 hT2
      go_upto_block 9 with (fail)
      refine keys_lay _ cB tB i hi hi2 (by omega) c _ hT3 hC2 _ ?_
      intros
      rename_i w4 h4
      obtain ⟨hC4, g4⟩ := h4
      have g5 : w.grownBy w4 (some cB) := grownBy_trans (grownBy_of_below b2 _) g4
      clear hT3 hC2 b2 g4 hC
      go_wp2
      exact ⟨by rw [HE5.out], by rw [HE6.out]; exact hC4, g5⟩
    · have t4 : ((i : Int) % 8 == 4) = false := by rw [beq_eq_false_iff_ne]; omega
      have H4 : Hid (¬ i % 8 = 4) := h4
      clear h4
      go_upto_block 9 with (fail)
      have hT1 := row4_of w (kt0 c i)
      have hT1' : (w.alloc (.cells #[.int .u8 (c ((i - 1) * 4)), .int .u8 (c ((i - 1) * 4 + 1)), .int .u8 (c ((i - 1) * 4 + 2)), .int .u8 (c ((i - 1) * 4 + 3))] 160)).rowIs w.heap.size 160 4 (fun k => .int .u8 (kt3 c p i k)) := by
        have := hT1
        have e2 : kt2 c i = kt1 c i := by rw [kt2, if_neg (by have := H0.out; have := H4.out; omega)]
        rw [show kt3 c p i = kt0 c i from by rw [kt3, if_neg H0.out, e2, HE7.out]]
        exact this
      have hC1 := hC.alloc (.cells #[.int .u8 (c ((i - 1) * 4)), .int .u8 (c ((i - 1) * 4 + 1)), .int .u8 (c ((i - 1) * 4 + 2)), .int .u8 (c ((i - 1) * 4 + 3))] 160)
      obtain ⟨w1, hw1⟩ : ∃ w1, w1 = w.alloc (.cells #[.int .u8 (c ((i - 1) * 4)), .int .u8 (c ((i - 1) * 4 + 1)), .int .u8 (c ((i - 1) * 4 + 2)), .int .u8 (c ((i - 1) * 4 + 3))] 160) := ⟨_, rfl⟩
      have q1 : Below w.heap.size w w1 := by rw [hw1]; exact (Below.refl _ _).alloc (Nat.le_refl _) _
      rw [← hw1] at hT1' hC1
      rw [← hw1]
      clear hw1 hT1 C0 C1 C2 C3
      refine keys_lay _ cB w.heap.size i hi hi2 (by omega) c _ hT1' hC1 _ ?_
      intros
      rename_i w4 h4
      obtain ⟨hC4, g4⟩ := h4
      have g5 : w.grownBy w4 (some cB) := grownBy_trans (grownBy_of_below q1 _) g4
      clear hT1' hC1 q1 g4 hC
      go_wp2
      exact ⟨by rw [HE5.out], by rw [HE6.out]; exact hC4, g5⟩
set_option maxRecDepth 100000 in
set_option maxHeartbeats 4000000 in
theorem keys_rounds (w : World) (cB : Nat) (key : List UInt8) (hC0 : w.rowIs cB 162 240 (fun j => .int .u8 (kc0 key 32 j)))
    {c0 c1 c2 c4 i7 i8 i9 c10 c11 c12 c13 c14 c15 c16 c17 c18 c19 c20 c21 c22 c23 c24 i25 i26 i27 i28 i29 i30 i31 i32 i33 i34 i35 i36 i37 i38 i39 i40 i41 i42 i43 i44 i45 i46 i47 i48 i49 i50 i51 i52 i53 i54 i55 i56 i57 i58 i59 i60 i61 i62 i63 i64 i65 i66 i67 i68 i69 i70 i71 i72 i73 i74 i75 i76 i77 i78 i79 i80 i81 i82 i83 i84 i85 i86 : Value}
    (Q : Exit → Act → World → Prop) (hQ : ∀ (u5 u6 u7 u8 u9 u25 u26 u27 u28 u29 u30 u31 u32 u33 u34 u35 u36 u37 u38 u39 u40 u41 u42 u43 u44 u45 u46 u47 u48 u49 u50 u51 u52 u53 u54 u55 u56 u57 u58 u59 u60 u61 u62 u63 u64 u65 u66 u67 u68 u69 u70 u71 u72 u73 u74 u75 u76 u77 u78 u79 u80 u81 u82 u83 u84 u85 u86 : Value) (w' : World), w'.rowIs cB 162 240 (fun j => .int .u8 (keysF key j)) ∧ w.grownBy w' (some cB) → Q .normal ⟨(c0 :: c1 :: c2 :: .pointer (some ⟨cB, 0, none⟩) :: c4 :: u5 :: u6 :: u7 :: u8 :: u9 :: c10 :: c11 :: c12 :: c13 :: c14 :: c15 :: c16 :: c17 :: c18 :: c19 :: c20 :: c21 :: c22 :: c23 :: c24 :: u25 :: u26 :: u27 :: u28 :: u29 :: u30 :: u31 :: u32 :: u33 :: u34 :: u35 :: u36 :: u37 :: u38 :: u39 :: u40 :: u41 :: u42 :: u43 :: u44 :: u45 :: u46 :: u47 :: u48 :: u49 :: u50 :: u51 :: u52 :: u53 :: u54 :: u55 :: u56 :: u57 :: u58 :: u59 :: u60 :: u61 :: u62 :: u63 :: u64 :: u65 :: u66 :: u67 :: u68 :: u69 :: u70 :: u71 :: u72 :: u73 :: u74 :: u75 :: u76 :: u77 :: u78 :: u79 :: u80 :: u81 :: u82 :: u83 :: u84 :: u85 :: u86 :: []).toArray, []⟩ w') :
    (codeBlock 2 Tryz.f103).wp Tryz.prog Q ⟨(c0 :: c1 :: c2 :: .pointer (some ⟨cB, 0, none⟩) :: c4 :: .int .u8 1 :: .int .i64 8 :: i7 :: i8 :: i9 :: c10 :: c11 :: c12 :: c13 :: c14 :: c15 :: c16 :: c17 :: c18 :: c19 :: c20 :: c21 :: c22 :: c23 :: c24 :: i25 :: i26 :: i27 :: i28 :: i29 :: i30 :: i31 :: i32 :: i33 :: i34 :: i35 :: i36 :: i37 :: i38 :: i39 :: i40 :: i41 :: i42 :: i43 :: i44 :: i45 :: i46 :: i47 :: i48 :: i49 :: i50 :: i51 :: i52 :: i53 :: i54 :: i55 :: i56 :: i57 :: i58 :: i59 :: i60 :: i61 :: i62 :: i63 :: i64 :: i65 :: i66 :: i67 :: i68 :: i69 :: i70 :: i71 :: i72 :: i73 :: i74 :: i75 :: i76 :: i77 :: i78 :: i79 :: i80 :: i81 :: i82 :: i83 :: i84 :: i85 :: i86 :: []).toArray, []⟩ w := by
  conv => arg 2; whnf
  go_wp2_with fail
  go_loopw [5, 6] (fun q i wr => ∃ n : Nat, n ≤ 52 ∧ q = .int .u8 (ksteps key n).2 ∧ i = .int .i64 ((8 + n : Nat) : Int) ∧ wr.rowIs cB 162 240 (fun j => .int .u8 ((ksteps key n).1 j)) ∧ w.grownBy wr (some cB)) (fun _ i _ => 60 - (intOf i).toNat)
  case atStart => exact ⟨0, by omega, rfl, rfl, hC0, grownBy_refl _ _⟩
  case round =>
    clear hC0
    obtain ⟨n, hn, rfl, rfl, hC, hb⟩ := hrel
    obtain ⟨i, hi⟩ : ∃ i, i = 8 + n := ⟨_, rfl⟩
    rw [← hi]
    have HI : Hid (i = 8 + n) := hi
    have hi8 : 8 ≤ i := by omega
    have hi60 : n < 52 → i < 60 := by omega
    have hi61 : i ≤ 60 := by omega
    clear hi
    by_cases hn52 : n < 52
    · have hi59 := hi60 hn52
      have hp := ksteps_p key n
      have hc := ksteps_in key n
      have hid : decide ((i : Int) < 60) = true := by simp; omega
      clear hi60
      go_upto_block 3 with (fail)
      refine keys_round _ cB i hi8 hi59 _ _ hp.1 hp.2 hc hC _ ?_
      intro u5
      intros
      rename_i w1 h1
      obtain ⟨rfl, hC1, g1⟩ := h1
      have hb2 := grownBy_trans hb g1
      have e1 : kstep ((ksteps key n).1, (ksteps key n).2) i = ksteps key (n + 1) := by rw [HI.out]; rfl
      rw [e1] at hC1 ⊢
      have hii : i + 1 = 8 + (n + 1) := by have := HI.out; omega
      have HII : Hid (i + 1 = 8 + (n + 1)) := hii
      clear hC hb g1 hp hc e1 hii
      go_wp2
      go_roundw
      case rel => exact ⟨n + 1, by omega, rfl, by rw [← HII.out]; go_num, hC1, hb2⟩
      case measure => simp [intOf]; omega
    · obtain rfl : n = 52 := by omega
      have hie : i = 60 := by have := HI.out; omega
      subst hie
      have hC' : wr.rowIs cB 162 240 (fun j => .int .u8 (keysF key j)) := hC
      clear hC
      go_wp2
      all_goals first | exact ⟨hC', hb⟩ | exact hC' | exact hb

theorem replicate_get (n : Nat) (v : Value) (i : Nat) (h : i < n) : ((List.replicate n v).toArray)[i]? = some v := by simp [h]
theorem replicate_size (n : Nat) (v : Value) : ((List.replicate n v).toArray).size = n := by simp
def z240 : Array Value := (List.replicate 240 (Value.int .u8 0)).toArray

def KeysPost (w : World) (key : List UInt8) (e : Ending) (w' : World) : Prop :=
  ∃ cB, e = .returned (.pointer (some ⟨cB, 0, none⟩)) ∧ w.heap.size ≤ cB ∧ w'.rowIs cB 162 240 (fun j => .int .u8 (keysF key j)) ∧ Below w.heap.size w w'

set_option maxRecDepth 100000 in
set_option maxHeartbeats 2000000 in
theorem keys_any (w : World) (key : ByteArray) (hk : key.size = 32) : Calls Tryz.prog 103 #[.string key] w (KeysPost w key.data.toList) := by
  have hC0 : (w.alloc (.cells z240 162)).rowIs w.heap.size 162 240 (fun j => .int .u8 (kc0 key.data.toList 0 j)) :=
    ⟨z240, heap_alloc_new w _, replicate_size 240 _, fun i hi => by
      rw [z240, replicate_get 240 _ i hi]; simp [kc0]⟩
  have hks : (key.size : Int) = 32 := by omega
  have HK : Hid (key.size = 32) := hk
  clear hk
  go_enter Tryz.func103, Tryz.ntmps103
  go_upto_block 0 with ((with_reducible refine wpList_new (o := ⟨some 3, .alloc 162, _, _, _, _⟩) (w' := w.alloc (.cells z240 162)) rfl (.pointer (some ⟨w.heap.size, 0, none⟩)) ?hnew ?_))
  case hnew => kernel_rfl
  refine keys_first _ w.heap.size key HK.out hC0 _ ?_
  intros
  rename_i w1 h1
  obtain ⟨hC1, g1⟩ := h1
  have b1 : Below w.heap.size w w1 := ((Below.refl _ _).alloc (Nat.le_refl _) _).trans (below_of_grownBy g1 (Nat.le_refl _) (by simp))
  clear hC0 g1
  go_upto_block 2 with (fail)
  refine keys_rounds _ w.heap.size _ hC1 _ ?_
  intros
  rename_i w2 h2
  obtain ⟨hC2, g2⟩ := h2
  have b2 : Below w.heap.size w w2 := b1.trans (below_of_grownBy g2 (Nat.le_refl _) b1.size)
  clear hC1 b1 g2
  go_wp2
  go_ret
  exact ⟨_, rfl, Nat.le_refl _, hC2, b2⟩
end Go.Proofs.YtipehnojibdfeaaGreat
