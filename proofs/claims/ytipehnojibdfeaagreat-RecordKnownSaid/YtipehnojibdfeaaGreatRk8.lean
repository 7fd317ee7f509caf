/- Parts of the proof, as they were built: Aes5, Aes6, Aes7, Aes8. -/
import Derived.Test.YtipehnojibdfeaaGreatRk7
import Derived.Lib.ConvBytes

/- Pieces of aes's keys: the first words, a word of bytes put through the box, a word laid under another. -/
namespace Go.Proofs.YtipehnojibdfeaaGreat
open Go Go.Proofs Go.RowKit

def kc0 (key : List UInt8) (k : Nat) : Nat → Int := fun j => if j < k then byteAt key j else 0
def kt0 (c : Nat → Int) (i : Nat) (k : Nat) : Int := c ((i - 1) * 4 + k)
def kt1 (c : Nat → Int) (i : Nat) : Nat → Int := if i % 8 = 0 then fun k => kt0 c i ((k + 1) % 4) else kt0 c i
def kt2 (c : Nat → Int) (i : Nat) : Nat → Int := if i % 8 = 0 ∨ i % 8 = 4 then fun k => sbox (kt1 c i k) else kt1 c i
def kt3 (c : Nat → Int) (p : Int) (i : Nat) : Nat → Int := if i % 8 = 0 then upd (kt2 c i) 0 (xor8 (kt2 c i 0) p) else kt2 c i
def kcT (c t : Nat → Int) (i k : Nat) : Nat → Int := fun j => if i * 4 ≤ j ∧ j < i * 4 + k then xor8 (c (j - 32)) (t (j - i * 4)) else c j
def kstep (cp : (Nat → Int) × Int) (i : Nat) : (Nat → Int) × Int := (kcT cp.1 (kt3 cp.1 cp.2 i) i 4, if i % 8 = 0 then twice8 cp.2 else cp.2)
def ksteps (key : List UInt8) : Nat → (Nat → Int) × Int
  | 0 => (kc0 key 32, 1)
  | n + 1 => kstep (ksteps key n) (8 + n)
/-- the rounds' keys -/
def keysF (key : List UInt8) : Nat → Int := (ksteps key 52).1
theorem kc0_in (key : List UInt8) (k j : Nat) : 0 ≤ kc0 key k j ∧ kc0 key k j < 256 := by
  unfold kc0; split
  · exact byteAt_in _ _
  · omega
theorem kcT_in (c t : Nat → Int) (i k j : Nat) (h : 0 ≤ c j ∧ c j < 256) : 0 ≤ kcT c t i k j ∧ kcT c t i k j < 256 := by
  unfold kcT; split
  · exact xor8_in _ _
  · exact h
theorem ksteps_in (key : List UInt8) (n j : Nat) : 0 ≤ (ksteps key n).1 j ∧ (ksteps key n).1 j < 256 := by
  induction n with
  | zero => exact kc0_in _ _ _
  | succ n ih => exact kcT_in _ _ _ _ _ ih
theorem ksteps_p (key : List UInt8) (n : Nat) : 0 ≤ (ksteps key n).2 ∧ (ksteps key n).2 < 256 := by
  induction n with
  | zero => simp [ksteps]
  | succ n ih =>
    simp only [ksteps, kstep]; split
    · exact twice8_in _
    · exact ih

set_option maxRecDepth 100000 in
set_option maxHeartbeats 4000000 in
theorem keys_first (w : World) (cB : Nat) (key : ByteArray) (hk : key.size = 32) (hC0 : w.rowIs cB 162 240 (fun j => .int .u8 (kc0 key.data.toList 0 j)))
    {c1 c2 i4 c5 c6 c7 c8 c9 c10 i13 i14 i15 i16 i17 i18 i19 i20 i21 i22 i23 i24 c25 c26 c27 c28 c29 c30 c31 c32 c33 c34 c35 c36 c37 c38 c39 c40 c41 c42 c43 c44 c45 c46 c47 c48 c49 c50 c51 c52 c53 c54 c55 c56 c57 c58 c59 c60 c61 c62 c63 c64 c65 c66 c67 c68 c69 c70 c71 c72 c73 c74 c75 c76 c77 c78 c79 c80 c81 c82 c83 c84 c85 c86 : Value}
    (Q : Exit → Act → World → Prop) (hQ : ∀ (u4 u12 u13 u14 u15 u16 u17 u18 u19 u20 u21 u22 u23 u24 : Value) (w' : World), w'.rowIs cB 162 240 (fun j => .int .u8 (kc0 key.data.toList 32 j)) ∧ w.grownBy w' (some cB) → Q .normal ⟨(.string key :: c1 :: c2 :: .pointer (some ⟨cB, 0, none⟩) :: u4 :: c5 :: c6 :: c7 :: c8 :: c9 :: c10 :: .int .i64 32 :: u12 :: u13 :: u14 :: u15 :: u16 :: u17 :: u18 :: u19 :: u20 :: u21 :: u22 :: u23 :: u24 :: c25 :: c26 :: c27 :: c28 :: c29 :: c30 :: c31 :: c32 :: c33 :: c34 :: c35 :: c36 :: c37 :: c38 :: c39 :: c40 :: c41 :: c42 :: c43 :: c44 :: c45 :: c46 :: c47 :: c48 :: c49 :: c50 :: c51 :: c52 :: c53 :: c54 :: c55 :: c56 :: c57 :: c58 :: c59 :: c60 :: c61 :: c62 :: c63 :: c64 :: c65 :: c66 :: c67 :: c68 :: c69 :: c70 :: c71 :: c72 :: c73 :: c74 :: c75 :: c76 :: c77 :: c78 :: c79 :: c80 :: c81 :: c82 :: c83 :: c84 :: c85 :: c86 :: []).toArray, []⟩ w') :
    (codeBlock 0 Tryz.f103).wp Tryz.prog Q ⟨(.string key :: c1 :: c2 :: .pointer (some ⟨cB, 0, none⟩) :: i4 :: c5 :: c6 :: c7 :: c8 :: c9 :: c10 :: .int .i64 32 :: .int .i64 0 :: i13 :: i14 :: i15 :: i16 :: i17 :: i18 :: i19 :: i20 :: i21 :: i22 :: i23 :: i24 :: c25 :: c26 :: c27 :: c28 :: c29 :: c30 :: c31 :: c32 :: c33 :: c34 :: c35 :: c36 :: c37 :: c38 :: c39 :: c40 :: c41 :: c42 :: c43 :: c44 :: c45 :: c46 :: c47 :: c48 :: c49 :: c50 :: c51 :: c52 :: c53 :: c54 :: c55 :: c56 :: c57 :: c58 :: c59 :: c60 :: c61 :: c62 :: c63 :: c64 :: c65 :: c66 :: c67 :: c68 :: c69 :: c70 :: c71 :: c72 :: c73 :: c74 :: c75 :: c76 :: c77 :: c78 :: c79 :: c80 :: c81 :: c82 :: c83 :: c84 :: c85 :: c86 :: []).toArray, []⟩ w := by
  conv => arg 2; whnf
  have hk1 : 32 ≤ key.size := by omega
  have hk2 : key.size ≤ 32 := by omega
  clear hk
  go_wp2_with fail
  go_loopw [12] (fun i wr => ∃ k : Nat, k ≤ 32 ∧ i = .int .i64 k ∧ wr.rowIs cB 162 240 (fun j => .int .u8 (kc0 key.data.toList k j)) ∧ w.grownBy wr (some cB)) (fun i _ => 32 - (intOf i).toNat)
  case atStart => exact ⟨0, by omega, rfl, hC0, grownBy_refl _ _⟩
  case round =>
    clear hC0
    obtain ⟨k, hk, rfl, hC, hb⟩ := hrel
    by_cases hk32 : k < 32
    · have hks : k < key.size := by omega
      obtain ⟨we, hwe⟩ : ∃ we, we = wr := ⟨_, rfl⟩
      rw [← hwe]
      rw [← hwe] at hC hb
      clear hwe
      go_wp2_with fail
      refine wp_region_later_tail 9 (by kernel_rfl) (by kernel_rfl) ?_
      simp only [List.take_succ_cons, List.take_zero, List.drop_succ_cons, List.drop_zero]
      repeat (go_big_quiet_step (fail))
      refine wpQuiet_nil ?_
      intro _ hw'
      obtain ⟨x, hw''⟩ := hw'
      subst hw''
      have hfz := (rowIs_later hC x.h).frozen (k / 4 * 4 + k % 4)
      have hmc := (rowIs_later hC x.h).cell (i := k / 4 * 4 + k % 4) (by omega)
      go_wp2
      go_roundw
      case rel =>
        refine ⟨k + 1, by omega, by go_num, ((rowIs_later hC x.h).set (k / 4 * 4 + k % 4) _).congr (fun j _ => ?_), grownBy_set (grownBy_later hb x.h) _⟩
        have e : k / 4 * 4 + k % 4 = k := by omega
        rw [e]
        by_cases hj : j = k
        · subst hj
          have : byteAt key.data.toList j = (key[j].toNat : Int) := byteAt_get key.data.toList j (by simpa using hks)
          simp [kc0, this]
        · simp [kc0, hj, show (j < k + 1) = (j < k) from propext (by omega)]
      case measure => simp [intOf]; omega
    · obtain rfl : k = 32 := by omega
      go_wp2
      exact ⟨hC, hb⟩

set_option maxRecDepth 100000 in
set_option maxHeartbeats 4000000 in
theorem keys_sub (w : World) (tB : Nat) (t : Nat → Int) (htr : ∀ i, i < 4 → 0 ≤ t i ∧ t i < 256) (hT0 : w.rowIs tB 160 4 (fun i => .int .u8 (t i)))
    {c0 c1 c2 c3 c4 c5 c6 i8 c9 c10 c11 c12 c13 c14 c15 c16 c17 c18 c19 c20 c21 c22 c23 c24 c25 c26 c27 c28 c29 c30 c31 c32 c33 c34 c35 c36 c37 c38 c39 c40 c41 c42 c43 c44 c45 c46 c47 i49 i50 i51 i52 i53 i54 i55 i56 i57 i58 c59 c60 c61 c62 c63 c64 c65 c66 c67 c68 c69 c70 c71 c72 c73 c74 c75 c76 c77 c78 c79 c80 c81 c82 c83 c84 c85 c86 : Value}
    (Q : Exit → Act → World → Prop) (hQ : ∀ (u8 u48 u49 u50 u51 u52 u53 u54 u55 u56 u57 u58 : Value) (w' : World), w'.rowIs tB 160 4 (fun i => .int .u8 (sbox (t i))) ∧ w.grownBy w' (some tB) → Q .normal ⟨(c0 :: c1 :: c2 :: c3 :: c4 :: c5 :: c6 :: .pointer (some ⟨tB, 0, none⟩) :: u8 :: c9 :: c10 :: c11 :: c12 :: c13 :: c14 :: c15 :: c16 :: c17 :: c18 :: c19 :: c20 :: c21 :: c22 :: c23 :: c24 :: c25 :: c26 :: c27 :: c28 :: c29 :: c30 :: c31 :: c32 :: c33 :: c34 :: c35 :: c36 :: c37 :: c38 :: c39 :: c40 :: c41 :: c42 :: c43 :: c44 :: c45 :: c46 :: c47 :: u48 :: u49 :: u50 :: u51 :: u52 :: u53 :: u54 :: u55 :: u56 :: u57 :: u58 :: c59 :: c60 :: c61 :: c62 :: c63 :: c64 :: c65 :: c66 :: c67 :: c68 :: c69 :: c70 :: c71 :: c72 :: c73 :: c74 :: c75 :: c76 :: c77 :: c78 :: c79 :: c80 :: c81 :: c82 :: c83 :: c84 :: c85 :: c86 :: []).toArray, []⟩ w') :
    (codeBlock 7 Tryz.f103).wp Tryz.prog Q ⟨(c0 :: c1 :: c2 :: c3 :: c4 :: c5 :: c6 :: .pointer (some ⟨tB, 0, none⟩) :: i8 :: c9 :: c10 :: c11 :: c12 :: c13 :: c14 :: c15 :: c16 :: c17 :: c18 :: c19 :: c20 :: c21 :: c22 :: c23 :: c24 :: c25 :: c26 :: c27 :: c28 :: c29 :: c30 :: c31 :: c32 :: c33 :: c34 :: c35 :: c36 :: c37 :: c38 :: c39 :: c40 :: c41 :: c42 :: c43 :: c44 :: c45 :: c46 :: c47 :: .int .i64 0 :: i49 :: i50 :: i51 :: i52 :: i53 :: i54 :: i55 :: i56 :: i57 :: i58 :: c59 :: c60 :: c61 :: c62 :: c63 :: c64 :: c65 :: c66 :: c67 :: c68 :: c69 :: c70 :: c71 :: c72 :: c73 :: c74 :: c75 :: c76 :: c77 :: c78 :: c79 :: c80 :: c81 :: c82 :: c83 :: c84 :: c85 :: c86 :: []).toArray, []⟩ w := by
  conv => arg 2; whnf
  go_wp2_with fail
  go_loopw [48] (fun i wr => ∃ k : Nat, k ≤ 4 ∧ i = .int .i64 k ∧ wr.rowIs tB 160 4 (fun j => .int .u8 (if j < k then sbox (t j) else t j)) ∧ w.grownBy wr (some tB)) (fun i _ => 4 - (intOf i).toNat)
  case atStart => exact ⟨0, by omega, rfl, by simpa using hT0, grownBy_refl _ _⟩
  case round =>
    clear hT0
    obtain ⟨k, hk, rfl, hT, hb⟩ := hrel
    by_cases hk4 : k < 4
    · obtain ⟨we, hwe⟩ : ∃ we, we = wr := ⟨_, rfl⟩
      rw [← hwe]
      rw [← hwe] at hT hb
      clear hwe
      have hx := htr k hk4
      have hidx := box_index (t k) hx.1 hx.2
      have D1 : we.cell? ⟨tB, k, none⟩ = some (.int .u8 (t k)) := by have := hT.cell (i := k) hk4; rw [if_neg (by omega)] at this; exact this
      have C1 := later_cell D1
      clear D1 htr
      go_wp2_with fail
      refine wp_region_later_tail 7 (by kernel_rfl) (by kernel_rfl) ?_
      simp only [List.take_succ_cons, List.take_zero, List.drop_succ_cons, List.drop_zero]
      repeat (go_big_quiet_step (((go_at_call 112; exact later_of (box_any _)))))
      refine wpQuiet_nil ?_
      intro _ hw'
      obtain ⟨x, hw''⟩ := hw'
      subst hw''
      have hfz := (rowIs_later hT x.h).frozen k
      have hmc := (rowIs_later hT x.h).cell (i := k) hk4
      go_wp2
      go_roundw
      case rel =>
        refine ⟨k + 1, by omega, by go_num, ((rowIs_later hT x.h).set k _).congr (fun j _ => ?_), grownBy_set (grownBy_later hb x.h) _⟩
        by_cases hj : j = k
        · subst hj; simp
        · simp [hj, show (j < k + 1) = (j < k) from propext (by omega)]
      case measure => simp [intOf]; omega
    · obtain rfl : k = 4 := by omega
      go_wp2
      exact ⟨hT.congr (fun i hi => by simp [hi]), hb⟩

set_option maxRecDepth 100000 in
set_option maxHeartbeats 4000000 in
theorem keys_lay (w : World) (cB tB i : Nat) (hi : 8 ≤ i) (hi2 : i < 60) (hne : cB ≠ tB) (c t : Nat → Int) (hT0 : w.rowIs tB 160 4 (fun i => .int .u8 (t i))) (hC0 : w.rowIs cB 162 240 (fun j => .int .u8 (c j)))
    {c0 c1 c2 c4 c5 c8 i9 c10 c11 c12 c13 c14 c15 c16 c17 c18 c19 c20 c21 c22 c23 c24 c25 c26 c27 c28 c29 c30 c31 c32 c33 c34 c35 c36 c37 c38 c39 c40 c41 c42 c43 c44 c45 c46 c47 c48 c49 c50 c51 c52 c53 c54 c55 c56 c57 c58 c59 c60 c61 c62 c63 c64 c65 c66 c67 c68 i70 i71 i72 i73 i74 i75 i76 i77 i78 i79 i80 i81 i82 i83 i84 i85 i86 : Value}
    (Q : Exit → Act → World → Prop) (hQ : ∀ (u9 u69 u70 u71 u72 u73 u74 u75 u76 u77 u78 u79 u80 u81 u82 u83 u84 u85 u86 : Value) (w' : World), w'.rowIs cB 162 240 (fun j => .int .u8 (kcT c t i 4 j)) ∧ w.grownBy w' (some cB) → Q .normal ⟨(c0 :: c1 :: c2 :: .pointer (some ⟨cB, 0, none⟩) :: c4 :: c5 :: .int .i64 i :: .pointer (some ⟨tB, 0, none⟩) :: c8 :: u9 :: c10 :: c11 :: c12 :: c13 :: c14 :: c15 :: c16 :: c17 :: c18 :: c19 :: c20 :: c21 :: c22 :: c23 :: c24 :: c25 :: c26 :: c27 :: c28 :: c29 :: c30 :: c31 :: c32 :: c33 :: c34 :: c35 :: c36 :: c37 :: c38 :: c39 :: c40 :: c41 :: c42 :: c43 :: c44 :: c45 :: c46 :: c47 :: c48 :: c49 :: c50 :: c51 :: c52 :: c53 :: c54 :: c55 :: c56 :: c57 :: c58 :: c59 :: c60 :: c61 :: c62 :: c63 :: c64 :: c65 :: c66 :: c67 :: c68 :: u69 :: u70 :: u71 :: u72 :: u73 :: u74 :: u75 :: u76 :: u77 :: u78 :: u79 :: u80 :: u81 :: u82 :: u83 :: u84 :: u85 :: u86 :: []).toArray, []⟩ w') :
    (codeBlock 9 Tryz.f103).wp Tryz.prog Q ⟨(c0 :: c1 :: c2 :: .pointer (some ⟨cB, 0, none⟩) :: c4 :: c5 :: .int .i64 i :: .pointer (some ⟨tB, 0, none⟩) :: c8 :: i9 :: c10 :: c11 :: c12 :: c13 :: c14 :: c15 :: c16 :: c17 :: c18 :: c19 :: c20 :: c21 :: c22 :: c23 :: c24 :: c25 :: c26 :: c27 :: c28 :: c29 :: c30 :: c31 :: c32 :: c33 :: c34 :: c35 :: c36 :: c37 :: c38 :: c39 :: c40 :: c41 :: c42 :: c43 :: c44 :: c45 :: c46 :: c47 :: c48 :: c49 :: c50 :: c51 :: c52 :: c53 :: c54 :: c55 :: c56 :: c57 :: c58 :: c59 :: c60 :: c61 :: c62 :: c63 :: c64 :: c65 :: c66 :: c67 :: c68 :: .int .i64 0 :: i70 :: i71 :: i72 :: i73 :: i74 :: i75 :: i76 :: i77 :: i78 :: i79 :: i80 :: i81 :: i82 :: i83 :: i84 :: i85 :: i86 :: []).toArray, []⟩ w := by
  conv => arg 2; whnf
  go_wp2_with fail
  go_loopw [69] (fun q wr => ∃ k : Nat, k ≤ 4 ∧ q = .int .i64 k ∧ wr.rowIs cB 162 240 (fun j => .int .u8 (kcT c t i k j)) ∧ w.grownBy wr (some cB)) (fun i _ => 4 - (intOf i).toNat)
  case atStart => exact ⟨0, by omega, rfl, hC0.congr (fun j _ => by simp only [kcT]; rw [if_neg (by omega)]), grownBy_refl _ _⟩
  case round =>
    clear hC0
    obtain ⟨k, hk, rfl, hC, hb⟩ := hrel
    by_cases hk4 : k < 4
    · have hTr := rowIs_grown hT0 hb (by simp; omega)
      obtain ⟨we, hwe⟩ : ∃ we, we = wr := ⟨_, rfl⟩
      rw [← hwe]
      rw [← hwe] at hC hb hTr
      clear hwe
      have D1 : we.cell? ⟨cB, (i - 8) * 4 + k, none⟩ = some (.int .u8 (c ((i - 8) * 4 + k))) := by
        have := hC.cell (i := (i - 8) * 4 + k) (by omega)
        simp only [kcT] at this
        rw [if_neg (by omega)] at this; exact this
      have C1 := later_cell D1
      have C2 := later_cell (hTr.cell (i := k) hk4)
      clear D1 hT0 hTr
      go_wp2_with fail
      refine wp_region_later_tail 14 (by kernel_rfl) (by kernel_rfl) ?_
      simp only [List.take_succ_cons, List.take_zero, List.drop_succ_cons, List.drop_zero]
      repeat (go_big_quiet_step (fail))
      refine wpQuiet_nil ?_
      intro _ hw'
      obtain ⟨x, hw''⟩ := hw'
      subst hw''
      have hfz := (rowIs_later hC x.h).frozen (i * 4 + k)
      have hmc := (rowIs_later hC x.h).cell (i := i * 4 + k) (by omega)
      go_wp2
      go_roundw
      case rel =>
        refine ⟨k + 1, by omega, by go_num, ((rowIs_later hC x.h).set (i * 4 + k) _).congr (fun j _ => ?_), grownBy_set (grownBy_later hb x.h) _⟩
        by_cases hj : j = i * 4 + k
        · subst hj
          have e : i * 4 + k - 32 = (i - 8) * 4 + k := by omega
          simp [kcT, xor8, e]
        · simp only [kcT, if_neg hj]
          by_cases h2 : i * 4 ≤ j ∧ j < i * 4 + k
          · rw [if_pos h2, if_pos (by omega)]
          · rw [if_neg h2, if_neg (by omega)]
      case measure => simp [intOf]; omega
    · obtain rfl : k = 4 := by omega
      go_wp2
      exact ⟨hC, hb⟩
end Go.Proofs.YtipehnojibdfeaaGreat

/- The contract of aes's keys: it computes its Lean twin. -/
namespace Go.Proofs.YtipehnojibdfeaaGreat
open Go Go.Proofs Go.RowKit

theorem row4_of (w : World) (t : Nat → Int) : (w.alloc (.cells #[.int .u8 (t 0), .int .u8 (t 1), .int .u8 (t 2), .int .u8 (t 3)] 160)).rowIs w.heap.size 160 4 (fun i => .int .u8 (t i)) :=
  World.rowIs_alloc w _ _ _ (fun i hi => by have : i < 4 := hi; match i, this with | 0, _ => rfl | 1, _ => rfl | 2, _ => rfl | 3, _ => rfl)
theorem kt1_in (c : Nat → Int) (hc : ∀ j, 0 ≤ c j ∧ c j < 256) (i k : Nat) : 0 ≤ kt1 c i k ∧ kt1 c i k < 256 := by
  unfold kt1; split <;> exact hc _

set_option maxRecDepth 100000 in
set_option maxHeartbeats 4000000 in
theorem keys_round (w : World) (cB i : Nat) (hi : 8 ≤ i) (hi2 : i < 60) (c : Nat → Int) (p : Int) (hp0 : 0 ≤ p) (hp1 : p < 256) (hc : ∀ j, 0 ≤ c j ∧ c j < 256) (hC : w.rowIs cB 162 240 (fun j => .int .u8 (c j)))
    {c0 c1 c2 c4 i7 i8 i9 c10 c11 c12 c13 c14 c15 c16 c17 c18 c19 c20 c21 c22 c23 c24 c25 c26 c27 c28 i29 i30 i31 i32 i33 i34 i35 i36 i37 i38 i39 i40 i41 i42 i43 i44 i45 i46 i47 i48 i49 i50 i51 i52 i53 i54 i55 i56 i57 i58 i59 i60 i61 i62 i63 i64 i65 i66 i67 i68 i69 i70 i71 i72 i73 i74 i75 i76 i77 i78 i79 i80 i81 i82 i83 i84 i85 i86 : Value}
    (Q : Exit → Act → World → Prop) (hQ : ∀ (u5 u7 u8 u9 u29 u30 u31 u32 u33 u34 u35 u36 u37 u38 u39 u40 u41 u42 u43 u44 u45 u46 u47 u48 u49 u50 u51 u52 u53 u54 u55 u56 u57 u58 u59 u60 u61 u62 u63 u64 u65 u66 u67 u68 u69 u70 u71 u72 u73 u74 u75 u76 u77 u78 u79 u80 u81 u82 u83 u84 u85 u86 : Value) (w' : World), u5 = .int .u8 (kstep (c, p) i).2 ∧ w'.rowIs cB 162 240 (fun j => .int .u8 ((kstep (c, p) i).1 j)) ∧ w.grownBy w' (some cB) → Q .normal ⟨(c0 :: c1 :: c2 :: .pointer (some ⟨cB, 0, none⟩) :: c4 :: u5 :: .int .i64 i :: u7 :: u8 :: u9 :: c10 :: c11 :: c12 :: c13 :: c14 :: c15 :: c16 :: c17 :: c18 :: c19 :: c20 :: c21 :: c22 :: c23 :: c24 :: c25 :: c26 :: c27 :: c28 :: u29 :: u30 :: u31 :: u32 :: u33 :: u34 :: u35 :: u36 :: u37 :: u38 :: u39 :: u40 :: u41 :: u42 :: u43 :: u44 :: u45 :: u46 :: u47 :: u48 :: u49 :: u50 :: u51 :: u52 :: u53 :: u54 :: u55 :: u56 :: u57 :: u58 :: u59 :: u60 :: u61 :: u62 :: u63 :: u64 :: u65 :: u66 :: u67 :: u68 :: u69 :: u70 :: u71 :: u72 :: u73 :: u74 :: u75 :: u76 :: u77 :: u78 :: u79 :: u80 :: u81 :: u82 :: u83 :: u84 :: u85 :: u86 :: []).toArray, []⟩ w') :
    (codeBlock 3 Tryz.f103).wp Tryz.prog Q ⟨(c0 :: c1 :: c2 :: .pointer (some ⟨cB, 0, none⟩) :: c4 :: .int .u8 p :: .int .i64 i :: i7 :: i8 :: i9 :: c10 :: c11 :: c12 :: c13 :: c14 :: c15 :: c16 :: c17 :: c18 :: c19 :: c20 :: c21 :: c22 :: c23 :: c24 :: c25 :: c26 :: c27 :: c28 :: i29 :: i30 :: i31 :: i32 :: i33 :: i34 :: i35 :: i36 :: i37 :: i38 :: i39 :: i40 :: i41 :: i42 :: i43 :: i44 :: i45 :: i46 :: i47 :: i48 :: i49 :: i50 :: i51 :: i52 :: i53 :: i54 :: i55 :: i56 :: i57 :: i58 :: i59 :: i60 :: i61 :: i62 :: i63 :: i64 :: i65 :: i66 :: i67 :: i68 :: i69 :: i70 :: i71 :: i72 :: i73 :: i74 :: i75 :: i76 :: i77 :: i78 :: i79 :: i80 :: i81 :: i82 :: i83 :: i84 :: i85 :: i86 :: []).toArray, []⟩ w := by
  conv => arg 2; whnf
  have hcl := hC.lt
  have C0 := hC.cell (i := (i - 1) * 4) (by omega)
  have C1 := hC.cell (i := (i - 1) * 4 + 1) (by omega)
  have C2 := hC.cell (i := (i - 1) * 4 + 2) (by omega)
  have C3 := hC.cell (i := (i - 1) * 4 + 3) (by omega)
  have hne : ¬ cB = w.heap.size := by omega
  by_cases h0 : i % 8 = 0
  · have t0 : ((i : Int) % 8 == 0) = true := by rw [beq_iff_eq]; omega
    have H0 : Hid (i % 8 = 0) := h0
    clear h0
    go_upto_block 7 with (fail)
    have hT1 := row4_of w (kt1 c i)
    have e1 : kt1 c i = fun k => kt0 c i ((k + 1) % 4) := by rw [kt1, if_pos H0.out]
    have hT1' : (w.alloc (.cells #[.int .u8 (c ((i - 1) * 4 + 1)), .int .u8 (c ((i - 1) * 4 + 2)), .int .u8 (c ((i - 1) * 4 + 3)), .int .u8 (c ((i - 1) * 4))] 160)).rowIs w.heap.size 160 4 (fun i_1 => .int .u8 (kt1 c i i_1)) := by
      have := hT1
      rw [e1] at this ⊢
      exact this
    have hC1 := hC.alloc (.cells #[.int .u8 (c ((i - 1) * 4 + 1)), .int .u8 (c ((i - 1) * 4 + 2)), .int .u8 (c ((i - 1) * 4 + 3)), .int .u8 (c ((i - 1) * 4))] 160)
    obtain ⟨w1, hw1⟩ : ∃ w1, w1 = w.alloc (.cells #[.int .u8 (c ((i - 1) * 4 + 1)), .int .u8 (c ((i - 1) * 4 + 2)), .int .u8 (c ((i - 1) * 4 + 3)), .int .u8 (c ((i - 1) * 4))] 160) := ⟨_, rfl⟩
    have q1 : Below w.heap.size w w1 := by rw [hw1]; exact (Below.refl _ _).alloc (Nat.le_refl _) _
    rw [← hw1] at hT1' hC1
    rw [← hw1]
    clear hw1 hT1 e1 C0 C1 C2 C3
    obtain ⟨tB, htB⟩ : ∃ tB, tB = w.heap.size := ⟨_, rfl⟩
    rw [← htB] at hT1' hcl hne
    simp only [← htB]
    have htB' : w.heap.size ≤ tB := by omega
    clear htB
    refine keys_sub _ tB (kt1 c i) (fun k _ => kt1_in c hc i k) hT1' _ ?_
    intros
    rename_i w2 h2
    obtain ⟨hT2, g2⟩ := h2
    have hC2 := rowIs_grown hC1 g2 (by simp; omega)
    have b2 : Below w.heap.size w w2 := q1.trans (below_of_grownBy g2 htB' q1.size)
    have f0 := hT2.cell (i := 0) (by omega)
    have f1 := hT2.frozen 0
    clear hT1' hC1 q1 g2
    go_wp2_with fail
    with_reducible refine (twice_any _ p hp0 hp1).mono ?_
    rintro e w3 ⟨rfl, n3, rfl⟩
    have hT3 : ((w2.setCell ⟨tB, 0, none⟩ (.int .u8 (bits .xor .u8 (sbox (kt1 c i 0)) p))).drewN n3).rowIs tB 160 4 (fun k => .int .u8 (kt3 c p i k)) :=
      World.rowIs.congr (World.rowIs.of_block (hT2.set 0 _) rfl) (fun k hk => by
        have e2 : kt2 c i = fun k => sbox (kt1 c i k) := by rw [kt2, if_pos (Or.inl H0.out)]
        by_cases h : k = 0
        · subst h; simp [kt3, H0.out, e2, upd, xor8]
        · simp [kt3, H0.out, e2, upd, h])
    have hC3 : ((w2.setCell ⟨tB, 0, none⟩ (.int .u8 (bits .xor .u8 (sbox (kt1 c i 0)) p))).drewN n3).rowIs cB 162 240 (fun j => .int .u8 (c j)) := World.rowIs.of_block (hC2.setOther (by simp; omega) _) rfl
    have b3 : Below w.heap.size w ((w2.setCell ⟨tB, 0, none⟩ (.int .u8 (bits .xor .u8 (sbox (kt1 c i 0)) p))).drewN n3) := below_drewN' (b2.setCell htB' _) _
    clear hT2 hC2 b2 f0 f1
    go_upto_block 9 with (fail)
    refine keys_lay _ cB tB i hi hi2 (by omega) c _ hT3 hC3 _ ?_
    intros
    rename_i w4 h4
    obtain ⟨hC4, g4⟩ := h4
    have g5 : w.grownBy w4 (some cB) := grownBy_trans (grownBy_of_below b3 _) g4
    clear hT3 hC3 b3 g4 hC
    have e5 : (kstep (c, p) i).2 = twice8 p := by simp [kstep, H0.out]
    have e6 : (kstep (c, p) i).1 = kcT c (kt3 c p i) i 4 := rfl
    have HE5 : Hid ((kstep (c, p) i).2 = twice8 p) := e5
    have HE6 : Hid ((kstep (c, p) i).1 = kcT c (kt3 c p i) i 4) := e6
    clear e5 e6
    go_wp2
    exact ⟨by rw [HE5.out], by rw [HE6.out]; exact hC4, g5⟩
  · have t0 : ((i : Int) % 8 == 0) = false := by rw [beq_eq_false_iff_ne]; omega
    have H0 : Hid (¬ i % 8 = 0) := h0
    clear h0
    have e5 : (kstep (c, p) i).2 = p := by simp [kstep, H0.out]
    have e6 : (kstep (c, p) i).1 = kcT c (kt3 c p i) i 4 := rfl
    have e7 : kt1 c i = kt0 c i := by rw [kt1, if_neg H0.out]
    have HE5 : Hid ((kstep (c, p) i).2 = p) := e5
    have HE6 : Hid ((kstep (c, p) i).1 = kcT c (kt3 c p i) i 4) := e6
    have HE7 : Hid (kt1 c i = kt0 c i) := e7
    clear e5 e6 e7
    by_cases h4 : i % 8 = 4
    · have t4 : ((i : Int) % 8 == 4) = true := by rw [beq_iff_eq]; omega
      have H4 : Hid (i % 8 = 4) := h4
      clear h4
      go_upto_block 7 with (fail)
      have hT1 := row4_of w (kt0 c i)
      have hT1' : (w.alloc (.cells #[.int .u8 (c ((i - 1) * 4)), .int .u8 (c ((i - 1) * 4 + 1)), .int .u8 (c ((i - 1) * 4 + 2)), .int .u8 (c ((i - 1) * 4 + 3))] 160)).rowIs w.heap.size 160 4 (fun i_1 => .int .u8 (kt1 c i i_1)) := by
        have := hT1
        rw [HE7.out]
        exact this
      have hC1 := hC.alloc (.cells #[.int .u8 (c ((i - 1) * 4)), .int .u8 (c ((i - 1) * 4 + 1)), .int .u8 (c ((i - 1) * 4 + 2)), .int .u8 (c ((i - 1) * 4 + 3))] 160)
      obtain ⟨w1, hw1⟩ : ∃ w1, w1 = w.alloc (.cells #[.int .u8 (c ((i - 1) * 4)), .int .u8 (c ((i - 1) * 4 + 1)), .int .u8 (c ((i - 1) * 4 + 2)), .int .u8 (c ((i - 1) * 4 + 3))] 160) := ⟨_, rfl⟩
      have q1 : Below w.heap.size w w1 := by rw [hw1]; exact (Below.refl _ _).alloc (Nat.le_refl _) _
      rw [← hw1] at hT1' hC1
      rw [← hw1]
      clear hw1 hT1 C0 C1 C2 C3
      obtain ⟨tB, htB⟩ : ∃ tB, tB = w.heap.size := ⟨_, rfl⟩
      rw [← htB] at hT1' hcl hne
      simp only [← htB]
      have htB' : w.heap.size ≤ tB := by omega
      clear htB
      refine keys_sub _ tB (kt1 c i) (fun k _ => kt1_in c hc i k) hT1' _ ?_
      intros
      rename_i w2 h2
      obtain ⟨hT2, g2⟩ := h2
      have hC2 := rowIs_grown hC1 g2 (by simp; omega)
      have b2 : Below w.heap.size w w2 := q1.trans (below_of_grownBy g2 htB' q1.size)
      have hT3 : w2.rowIs tB 160 4 (fun k => .int .u8 (kt3 c p i k)) := hT2.congr (fun k hk => by
        have e2 : kt2 c i = fun k => sbox (kt1 c i k) := by rw [kt2, if_pos (Or.inr H4.out)]
        simp [kt3, H0.out, e2])
      clear hT1' hC1 q1 g2 hT2
      go_upto_block 9 with (fail)
      refine keys_lay _ cB tB i hi hi2 (by omega) c _ hT3 hC2 _ ?_
      intros
      rename_i w4 h4
      obtain ⟨hC4, g4⟩ := h4
      have g5 : w.grownBy w4 (some cB) := grownBy_trans (grownBy_of_below b2 _) g4
      clear hT3 hC2 b2 g4 hC
      go_wp2
      exact ⟨by rw [HE5.out], by rw [HE6.out]; exact hC4, g5⟩
    · have t4 : ((i : Int) % 8 == 4) = false := by rw [beq_eq_false_iff_ne]; omega
      have H4 : Hid (¬ i % 8 = 4) := h4
      clear h4
      go_upto_block 9 with (fail)
      have hT1 := row4_of w (kt0 c i)
      have hT1' : (w.alloc (.cells #[.int .u8 (c ((i - 1) * 4)), .int .u8 (c ((i - 1) * 4 + 1)), .int .u8 (c ((i - 1) * 4 + 2)), .int .u8 (c ((i - 1) * 4 + 3))] 160)).rowIs w.heap.size 160 4 (fun k => .int .u8 (kt3 c p i k)) := by
        have := hT1
        have e2 : kt2 c i = kt1 c i := by rw [kt2, if_neg (by have := H0.out; have := H4.out; omega)]
        rw [show kt3 c p i = kt0 c i from by rw [kt3, if_neg H0.out, e2, HE7.out]]
        exact this
      have hC1 := hC.alloc (.cells #[.int .u8 (c ((i - 1) * 4)), .int .u8 (c ((i - 1) * 4 + 1)), .int .u8 (c ((i - 1) * 4 + 2)), .int .u8 (c ((i - 1) * 4 + 3))] 160)
      obtain ⟨w1, hw1⟩ : ∃ w1, w1 = w.alloc (.cells #[.int .u8 (c ((i - 1) * 4)), .int .u8 (c ((i - 1) * 4 + 1)), .int .u8 (c ((i - 1) * 4 + 2)), .int .u8 (c ((i - 1) * 4 + 3))] 160) := ⟨_, rfl⟩
      have q1 : Below w.heap.size w w1 := by rw [hw1]; exact (Below.refl _ _).alloc (Nat.le_refl _) _
      rw [← hw1] at hT1' hC1
      rw [← hw1]
      clear hw1 hT1 C0 C1 C2 C3
      refine keys_lay _ cB w.heap.size i hi hi2 (by omega) c _ hT1' hC1 _ ?_
      intros
      rename_i w4 h4
      obtain ⟨hC4, g4⟩ := h4
      have g5 : w.grownBy w4 (some cB) := grownBy_trans (grownBy_of_below q1 _) g4
      clear hT1' hC1 q1 g4 hC
      go_wp2
      exact ⟨by rw [HE5.out], by rw [HE6.out]; exact hC4, g5⟩
set_option maxRecDepth 100000 in
set_option maxHeartbeats 4000000 in
theorem keys_rounds (w : World) (cB : Nat) (key : List UInt8) (hC0 : w.rowIs cB 162 240 (fun j => .int .u8 (kc0 key 32 j)))
    {c0 c1 c2 c4 i7 i8 i9 c10 c11 c12 c13 c14 c15 c16 c17 c18 c19 c20 c21 c22 c23 c24 i25 i26 i27 i28 i29 i30 i31 i32 i33 i34 i35 i36 i37 i38 i39 i40 i41 i42 i43 i44 i45 i46 i47 i48 i49 i50 i51 i52 i53 i54 i55 i56 i57 i58 i59 i60 i61 i62 i63 i64 i65 i66 i67 i68 i69 i70 i71 i72 i73 i74 i75 i76 i77 i78 i79 i80 i81 i82 i83 i84 i85 i86 : Value}
    (Q : Exit → Act → World → Prop) (hQ : ∀ (u5 u6 u7 u8 u9 u25 u26 u27 u28 u29 u30 u31 u32 u33 u34 u35 u36 u37 u38 u39 u40 u41 u42 u43 u44 u45 u46 u47 u48 u49 u50 u51 u52 u53 u54 u55 u56 u57 u58 u59 u60 u61 u62 u63 u64 u65 u66 u67 u68 u69 u70 u71 u72 u73 u74 u75 u76 u77 u78 u79 u80 u81 u82 u83 u84 u85 u86 : Value) (w' : World), w'.rowIs cB 162 240 (fun j => .int .u8 (keysF key j)) ∧ w.grownBy w' (some cB) → Q .normal ⟨(c0 :: c1 :: c2 :: .pointer (some ⟨cB, 0, none⟩) :: c4 :: u5 :: u6 :: u7 :: u8 :: u9 :: c10 :: c11 :: c12 :: c13 :: c14 :: c15 :: c16 :: c17 :: c18 :: c19 :: c20 :: c21 :: c22 :: c23 :: c24 :: u25 :: u26 :: u27 :: u28 :: u29 :: u30 :: u31 :: u32 :: u33 :: u34 :: u35 :: u36 :: u37 :: u38 :: u39 :: u40 :: u41 :: u42 :: u43 :: u44 :: u45 :: u46 :: u47 :: u48 :: u49 :: u50 :: u51 :: u52 :: u53 :: u54 :: u55 :: u56 :: u57 :: u58 :: u59 :: u60 :: u61 :: u62 :: u63 :: u64 :: u65 :: u66 :: u67 :: u68 :: u69 :: u70 :: u71 :: u72 :: u73 :: u74 :: u75 :: u76 :: u77 :: u78 :: u79 :: u80 :: u81 :: u82 :: u83 :: u84 :: u85 :: u86 :: []).toArray, []⟩ w') :
    (codeBlock 2 Tryz.f103).wp Tryz.prog Q ⟨(c0 :: c1 :: c2 :: .pointer (some ⟨cB, 0, none⟩) :: c4 :: .int .u8 1 :: .int .i64 8 :: i7 :: i8 :: i9 :: c10 :: c11 :: c12 :: c13 :: c14 :: c15 :: c16 :: c17 :: c18 :: c19 :: c20 :: c21 :: c22 :: c23 :: c24 :: i25 :: i26 :: i27 :: i28 :: i29 :: i30 :: i31 :: i32 :: i33 :: i34 :: i35 :: i36 :: i37 :: i38 :: i39 :: i40 :: i41 :: i42 :: i43 :: i44 :: i45 :: i46 :: i47 :: i48 :: i49 :: i50 :: i51 :: i52 :: i53 :: i54 :: i55 :: i56 :: i57 :: i58 :: i59 :: i60 :: i61 :: i62 :: i63 :: i64 :: i65 :: i66 :: i67 :: i68 :: i69 :: i70 :: i71 :: i72 :: i73 :: i74 :: i75 :: i76 :: i77 :: i78 :: i79 :: i80 :: i81 :: i82 :: i83 :: i84 :: i85 :: i86 :: []).toArray, []⟩ w := by
  conv => arg 2; whnf
  go_wp2_with fail
  go_loopw [5, 6] (fun q i wr => ∃ n : Nat, n ≤ 52 ∧ q = .int .u8 (ksteps key n).2 ∧ i = .int .i64 ((8 + n : Nat) : Int) ∧ wr.rowIs cB 162 240 (fun j => .int .u8 ((ksteps key n).1 j)) ∧ w.grownBy wr (some cB)) (fun _ i _ => 60 - (intOf i).toNat)
  case atStart => exact ⟨0, by omega, rfl, rfl, hC0, grownBy_refl _ _⟩
  case round =>
    clear hC0
    obtain ⟨n, hn, rfl, rfl, hC, hb⟩ := hrel
    obtain ⟨i, hi⟩ : ∃ i, i = 8 + n := ⟨_, rfl⟩
    rw [← hi]
    have HI : Hid (i = 8 + n) := hi
    have hi8 : 8 ≤ i := by omega
    have hi60 : n < 52 → i < 60 := by omega
    have hi61 : i ≤ 60 := by omega
    clear hi
    by_cases hn52 : n < 52
    · have hi59 := hi60 hn52
      have hp := ksteps_p key n
      have hc := ksteps_in key n
      have hid : decide ((i : Int) < 60) = true := by simp; omega
      clear hi60
      go_upto_block 3 with (fail)
      refine keys_round _ cB i hi8 hi59 _ _ hp.1 hp.2 hc hC _ ?_
      intro u5
      intros
      rename_i w1 h1
      obtain ⟨rfl, hC1, g1⟩ := h1
      have hb2 := grownBy_trans hb g1
      have e1 : kstep ((ksteps key n).1, (ksteps key n).2) i = ksteps key (n + 1) := by rw [HI.out]; rfl
      rw [e1] at hC1 ⊢
      have hii : i + 1 = 8 + (n + 1) := by have := HI.out; omega
      have HII : Hid (i + 1 = 8 + (n + 1)) := hii
      clear hC hb g1 hp hc e1 hii
      go_wp2
      go_roundw
      case rel => exact ⟨n + 1, by omega, rfl, by rw [← HII.out]; go_num, hC1, hb2⟩
      case measure => simp [intOf]; omega
    · obtain rfl : n = 52 := by omega
      have hie : i = 60 := by have := HI.out; omega
      subst hie
      have hC' : wr.rowIs cB 162 240 (fun j => .int .u8 (keysF key j)) := hC
      clear hC
      go_wp2
      all_goals first | exact ⟨hC', hb⟩ | exact hC' | exact hb

theorem replicate_get (n : Nat) (v : Value) (i : Nat) (h : i < n) : ((List.replicate n v).toArray)[i]? = some v := by simp [h]
theorem replicate_size (n : Nat) (v : Value) : ((List.replicate n v).toArray).size = n := by simp
def z240 : Array Value := (List.replicate 240 (Value.int .u8 0)).toArray

def KeysPost (w : World) (key : List UInt8) (e : Ending) (w' : World) : Prop :=
  ∃ cB, e = .returned (.pointer (some ⟨cB, 0, none⟩)) ∧ w.heap.size ≤ cB ∧ w'.rowIs cB 162 240 (fun j => .int .u8 (keysF key j)) ∧ Below w.heap.size w w'

set_option maxRecDepth 100000 in
set_option maxHeartbeats 2000000 in
theorem keys_any (w : World) (key : ByteArray) (hk : key.size = 32) : Calls Tryz.prog 103 #[.string key] w (KeysPost w key.data.toList) := by
  have hC0 : (w.alloc (.cells z240 162)).rowIs w.heap.size 162 240 (fun j => .int .u8 (kc0 key.data.toList 0 j)) :=
    ⟨z240, heap_alloc_new w _, replicate_size 240 _, fun i hi => by
      rw [z240, replicate_get 240 _ i hi]; simp [kc0]⟩
  have hks : (key.size : Int) = 32 := by omega
  have HK : Hid (key.size = 32) := hk
  clear hk
  go_enter Tryz.func103, Tryz.ntmps103
  go_upto_block 0 with ((with_reducible refine wpList_new (o := ⟨some 3, .alloc 162, _, _, _, _⟩) (w' := w.alloc (.cells z240 162)) rfl (.pointer (some ⟨w.heap.size, 0, none⟩)) ?hnew ?_))
  case hnew => kernel_rfl
  refine keys_first _ w.heap.size key HK.out hC0 _ ?_
  intros
  rename_i w1 h1
  obtain ⟨hC1, g1⟩ := h1
  have b1 : Below w.heap.size w w1 := ((Below.refl _ _).alloc (Nat.le_refl _) _).trans (below_of_grownBy g1 (Nat.le_refl _) (by simp))
  clear hC0 g1
  go_upto_block 2 with (fail)
  refine keys_rounds _ w.heap.size _ hC1 _ ?_
  intros
  rename_i w2 h2
  obtain ⟨hC2, g2⟩ := h2
  have b2 : Below w.heap.size w w2 := b1.trans (below_of_grownBy g2 (Nat.le_refl _) b1.size)
  clear hC1 b1 g2
  go_wp2
  go_ret
  exact ⟨_, rfl, Nat.le_refl _, hC2, b2⟩
end Go.Proofs.YtipehnojibdfeaaGreat

/- Pieces of aes's Ctr: the rows of a conversion, the count of a block, a block laid under the text. -/
namespace Go.Proofs.YtipehnojibdfeaaGreat
open Go Go.Proofs Go.RowKit

/-- a row that []byte(s) has made -/
def CRow (w : World) (g : Nat) (t : TypeId) (n : Nat) (f : Nat → Value) : Prop :=
  ∃ cs : Array Value, w.heap[g]? = some (.cells cs t (cs.size, cs.size + 1)) ∧ n ≤ cs.size ∧ ∀ i, i < n → cs[i]? = some (f i)
section
variable {w w' : World} {g : Nat} {t : TypeId} {n : Nat} {f : Nat → Value}
theorem CRow.lt (h : CRow w g t n f) : g < w.heap.size := by
  obtain ⟨cs, hh, _⟩ := h
  rcases Nat.lt_or_ge g w.heap.size with hlt | hge
  · exact hlt
  · rw [Array.getElem?_eq_none hge] at hh; cases hh
theorem CRow.cell (h : CRow w g t n f) {i : Nat} (hi : i < n) : w.cell? ⟨g, i, none⟩ = some (f i) := by
  obtain ⟨cs, hh, _, hc⟩ := h
  exact (cell_of_row w g i cs t _ hh).trans (hc i hi)
theorem CRow.frozen (h : CRow w g t n f) {i : Nat} (hi : i < n) : w.frozen? ⟨g, i, none⟩ = false := by
  obtain ⟨cs, hh, hn, _⟩ := h
  simp [World.frozen?, hh]; omega
theorem CRow.of_block (h : CRow w g t n f) (hb : w'.heap[g]? = w.heap[g]?) : CRow w' g t n f := by
  obtain ⟨cs, hh, r⟩ := h
  exact ⟨cs, hb.trans hh, r⟩
theorem CRow.below {B : Nat} (h : CRow w g t n f) (hb : Below B w w') (hl : g < B) : CRow w' g t n f := h.of_block (hb.block g hl)
theorem CRow.later (h : CRow w g t n f) (hb : Below w.heap.size w w') : CRow w' g t n f := h.below hb h.lt
theorem CRow.grown {row : Option Nat} (h : CRow w g t n f) (hb : w.grownBy w' row) (hne : some g ≠ row) : CRow w' g t n f := h.of_block (hb.block g h.lt hne)
theorem CRow.congr {f' : Nat → Value} (h : CRow w g t n f) (he : ∀ i, i < n → f i = f' i) : CRow w g t n f' := by
  obtain ⟨cs, hh, hn, hc⟩ := h
  exact ⟨cs, hh, hn, fun i hi => (hc i hi).trans (by rw [he i hi])⟩
theorem CRow.set (h : CRow w g t n f) (k : Nat) (u : Value) : CRow (w.setCell ⟨g, k, none⟩ u) g t n (fun i => if i = k then u else f i) := by
  obtain ⟨cs, hh, hn, hc⟩ := h
  refine ⟨cs.setIfInBounds k u, ?_, by simpa using hn, fun i hi => ?_⟩
  · simp [World.setCell, Array.getElem?_modify, hh]
  · rw [Array.getElem?_setIfInBounds]
    by_cases e : k = i
    · subst e; simp [show k < cs.size by omega]
    · have e' : ¬ i = k := fun q => e q.symm
      simp only [if_neg e, if_neg e']; exact hc i hi
theorem CRow.bytes (w : World) (e : TypeId) (s : ByteArray) : CRow (Lib.bytesWorld w e s) w.heap.size e s.size (fun i => .int .u8 (byteAt s.data.toList i)) := by
  refine ⟨Lib.bytesCells w e s, Lib.bytesWorld_at_new w e s, ?_, fun i hi => ?_⟩
  · have : s.data.size = s.size := rfl
    simp only [Lib.bytesCells, Array.size_append, Array.size_map]; omega
  · have := Lib.bytesWorld_cell w e s i hi
    simp only [World.cell?, Lib.bytesWorld_at_new] at this
    simpa [byteAt] using this
end

/-- the count of a block, its low bytes laid -/
def cntF (c : Nat → Int) (b : Nat) (k : Nat) : Nat → Int := fun j => if 16 - k ≤ j ∧ j < 16 then ((b / 2 ^ (8 * (15 - j)) % 256 : Nat) : Int) else c j
/-- a text with a block laid under it -/
def laidF (o s : Nat → Int) (p : Nat) (k : Nat) : Nat → Int := fun j => if p ≤ j ∧ j < p + k then xor8 (o j) (s (j - p)) else o j

set_option maxRecDepth 100000 in
set_option maxHeartbeats 4000000 in
theorem ctr_count (w : World) (cB p : Nat) (hp : p < 2097152) (c : Nat → Int) (hC0 : w.rowIs cB 146 16 (fun j => .int .u8 (c j)))
    {c0 c1 c2 c3 c4 c5 c6 c7 c8 c9 i12 c13 c14 c15 c16 c17 c18 c19 c20 c21 c22 c23 c24 c25 c26 c27 c28 c29 c30 c31 c32 c33 c34 c35 c36 c37 c38 c39 i41 i42 i43 i44 i45 i46 i47 i48 i49 i50 i51 i52 c53 c54 c55 c56 c57 c58 c59 c60 c61 c62 c63 c64 c65 c66 c67 c68 c69 c70 c71 c72 c73 c74 c75 c76 c77 c78 c79 c80 c81 : Value}
    (Q : Exit → Act → World → Prop) (hQ : ∀ (u12 u40 u41 u42 u43 u44 u45 u46 u47 u48 u49 u50 u51 u52 : Value) (w' : World), w'.rowIs cB 146 16 (fun j => .int .u8 (cntF c (p / 16) 4 j)) ∧ w.grownBy w' (some cB) → Q .normal ⟨(c0 :: c1 :: c2 :: c3 :: c4 :: c5 :: c6 :: c7 :: c8 :: c9 :: .pointer (some ⟨cB, 0, none⟩) :: .int .i64 p :: u12 :: c13 :: c14 :: c15 :: c16 :: c17 :: c18 :: c19 :: c20 :: c21 :: c22 :: c23 :: c24 :: c25 :: c26 :: c27 :: c28 :: c29 :: c30 :: c31 :: c32 :: c33 :: c34 :: c35 :: c36 :: c37 :: c38 :: c39 :: u40 :: u41 :: u42 :: u43 :: u44 :: u45 :: u46 :: u47 :: u48 :: u49 :: u50 :: u51 :: u52 :: c53 :: c54 :: c55 :: c56 :: c57 :: c58 :: c59 :: c60 :: c61 :: c62 :: c63 :: c64 :: c65 :: c66 :: c67 :: c68 :: c69 :: c70 :: c71 :: c72 :: c73 :: c74 :: c75 :: c76 :: c77 :: c78 :: c79 :: c80 :: c81 :: []).toArray, []⟩ w') :
    (codeBlock 3 Tryz.f89).wp Tryz.prog Q ⟨(c0 :: c1 :: c2 :: c3 :: c4 :: c5 :: c6 :: c7 :: c8 :: c9 :: .pointer (some ⟨cB, 0, none⟩) :: .int .i64 p :: i12 :: c13 :: c14 :: c15 :: c16 :: c17 :: c18 :: c19 :: c20 :: c21 :: c22 :: c23 :: c24 :: c25 :: c26 :: c27 :: c28 :: c29 :: c30 :: c31 :: c32 :: c33 :: c34 :: c35 :: c36 :: c37 :: c38 :: c39 :: .int .i64 0 :: i41 :: i42 :: i43 :: i44 :: i45 :: i46 :: i47 :: i48 :: i49 :: i50 :: i51 :: i52 :: c53 :: c54 :: c55 :: c56 :: c57 :: c58 :: c59 :: c60 :: c61 :: c62 :: c63 :: c64 :: c65 :: c66 :: c67 :: c68 :: c69 :: c70 :: c71 :: c72 :: c73 :: c74 :: c75 :: c76 :: c77 :: c78 :: c79 :: c80 :: c81 :: []).toArray, []⟩ w := by
  conv => arg 2; whnf
  go_wp2_with fail
  go_loopw [40] (fun i wr => ∃ k : Nat, k ≤ 4 ∧ i = .int .i64 k ∧ wr.rowIs cB 146 16 (fun j => .int .u8 (cntF c (p / 16) k j)) ∧ w.grownBy wr (some cB)) (fun i _ => 4 - (intOf i).toNat)
  case atStart => exact ⟨0, by omega, rfl, hC0.congr (fun j hj => by simp only [cntF]; rw [if_neg (by omega)]), grownBy_refl _ _⟩
  case round =>
    clear hC0
    obtain ⟨k, hk, rfl, hC, hb⟩ := hrel
    by_cases hk4 : k < 4
    · have hfz := hC.frozen (15 - k)
      have hmc := hC.cell (i := 15 - k) (by omega)
      go_wp2
      go_roundw
      case rel =>
        refine ⟨k + 1, by omega, by go_num, (hC.set (15 - k) _).congr (fun j hj => ?_), grownBy_set hb _⟩
        have hj16 : j < 16 := hj
        by_cases e : j = 15 - k
        · subst e
          simp only [if_true, cntF]
          rw [if_pos (by omega)]
          have e2 : 15 - (15 - k) = k := by omega
          rw [e2]
          exact congrArg (Value.int .u8) (by simp)
        · simp only [if_neg e, cntF]
          simp only [show (16 - (k + 1) ≤ j ∧ j < 16) = (16 - k ≤ j ∧ j < 16) from propext (by omega)]
      case measure => simp [intOf]; omega
    · obtain rfl : k = 4 := by omega
      go_wp2
      exact ⟨hC, hb⟩

set_option maxRecDepth 100000 in
set_option maxHeartbeats 4000000 in
theorem ctr_lay (w : World) (oB sB n cap p m : Nat) (hn : n ≤ 1048576) (hpm : p + m ≤ n) (hm : m ≤ 16) (hne : oB ≠ sB) (o s : Nat → Int) (hS0 : w.rowIs sB 146 16 (fun j => .int .u8 (s j))) (hO0 : CRow w oB 5 n (fun j => .int .u8 (o j)))
    {c0 c1 c2 c3 c4 c5 c6 c7 c8 c10 c12 i14 c15 c16 c17 c18 c19 c20 c21 c22 c23 c24 c25 c26 c27 c28 c29 c30 c31 c32 c33 c34 c35 c36 c37 c38 c39 c40 c41 c42 c43 c44 c45 c46 c47 c48 c49 c50 c51 c52 c53 c54 c55 c56 c57 c58 c59 c60 c61 c62 c63 i66 i67 i68 i69 i70 i71 i72 i73 i74 i75 i76 i77 i78 i79 c80 c81 : Value}
    (Q : Exit → Act → World → Prop) (hQ : ∀ (u14 u65 u66 u67 u68 u69 u70 u71 u72 u73 u74 u75 u76 u77 u78 u79 : Value) (w' : World), CRow w' oB 5 n (fun j => .int .u8 (laidF o s p m j)) ∧ w.grownBy w' (some oB) → Q .normal ⟨(c0 :: c1 :: c2 :: c3 :: c4 :: c5 :: c6 :: c7 :: c8 :: .slice (some ⟨oB, 0, none⟩) n cap :: c10 :: .int .i64 p :: c12 :: .pointer (some ⟨sB, 0, none⟩) :: u14 :: c15 :: c16 :: c17 :: c18 :: c19 :: c20 :: c21 :: c22 :: c23 :: c24 :: c25 :: c26 :: c27 :: c28 :: c29 :: c30 :: c31 :: c32 :: c33 :: c34 :: c35 :: c36 :: c37 :: c38 :: c39 :: c40 :: c41 :: c42 :: c43 :: c44 :: c45 :: c46 :: c47 :: c48 :: c49 :: c50 :: c51 :: c52 :: c53 :: c54 :: c55 :: c56 :: c57 :: c58 :: c59 :: c60 :: c61 :: c62 :: c63 :: .int .i64 m :: u65 :: u66 :: u67 :: u68 :: u69 :: u70 :: u71 :: u72 :: u73 :: u74 :: u75 :: u76 :: u77 :: u78 :: u79 :: c80 :: c81 :: []).toArray, []⟩ w') :
    (codeBlock 5 Tryz.f89).wp Tryz.prog Q ⟨(c0 :: c1 :: c2 :: c3 :: c4 :: c5 :: c6 :: c7 :: c8 :: .slice (some ⟨oB, 0, none⟩) n cap :: c10 :: .int .i64 p :: c12 :: .pointer (some ⟨sB, 0, none⟩) :: i14 :: c15 :: c16 :: c17 :: c18 :: c19 :: c20 :: c21 :: c22 :: c23 :: c24 :: c25 :: c26 :: c27 :: c28 :: c29 :: c30 :: c31 :: c32 :: c33 :: c34 :: c35 :: c36 :: c37 :: c38 :: c39 :: c40 :: c41 :: c42 :: c43 :: c44 :: c45 :: c46 :: c47 :: c48 :: c49 :: c50 :: c51 :: c52 :: c53 :: c54 :: c55 :: c56 :: c57 :: c58 :: c59 :: c60 :: c61 :: c62 :: c63 :: .int .i64 m :: .int .i64 0 :: i66 :: i67 :: i68 :: i69 :: i70 :: i71 :: i72 :: i73 :: i74 :: i75 :: i76 :: i77 :: i78 :: i79 :: c80 :: c81 :: []).toArray, []⟩ w := by
  conv => arg 2; whnf
  go_wp2_with fail
  go_loopw [65] (fun i wr => ∃ k : Nat, k ≤ m ∧ i = .int .i64 k ∧ CRow wr oB 5 n (fun j => .int .u8 (laidF o s p k j)) ∧ w.grownBy wr (some oB)) (fun i _ => m - (intOf i).toNat)
  case atStart => exact ⟨0, by omega, rfl, hO0.congr (fun j hj => by simp only [laidF]; rw [if_neg (by omega)]), grownBy_refl _ _⟩
  case round =>
    clear hO0
    obtain ⟨k, hk, rfl, hO, hb⟩ := hrel
    have hS := rowIs_grown hS0 hb (by simp; omega)
    by_cases hkm : k < m
    · have hkd : decide ((k : Int) < (m : Int)) = true := by simp; omega
      obtain ⟨we, hwe⟩ : ∃ we, we = wr := ⟨_, rfl⟩
      rw [← hwe]
      rw [← hwe] at hO hS hb
      clear hwe
      have hpk : p + k < n := by omega
      have hk16 : k < 16 := by omega
      have C1 := later_cell (hO.cell hpk)
      have C2 := later_cell (hS.cell (i := k) hk16)
      clear hS hS0
      go_wp2_with fail
      refine wp_region_later_tail 11 (by kernel_rfl) (by kernel_rfl) ?_
      simp only [List.take_succ_cons, List.take_zero, List.drop_succ_cons, List.drop_zero]
      repeat (go_big_quiet_step (fail))
      refine wpQuiet_nil ?_
      intro _ hw'
      obtain ⟨x, hw''⟩ := hw'
      subst hw''
      have hfz := (hO.later x.h).frozen hpk
      have hmc := (hO.later x.h).cell hpk
      go_wp2
      go_roundw
      case rel =>
        refine ⟨k + 1, by omega, by go_num, ((hO.later x.h).set (p + k) _).congr (fun j _ => ?_), grownBy_set (grownBy_later hb x.h) _⟩
        by_cases hj : j = p + k
        · subst hj; simp [laidF, xor8]
        · simp [laidF, hj, show (j < p + (k + 1)) = (j < p + k) from propext (by omega)]
      case measure => simp [intOf]; omega
    · obtain rfl : k = m := by omega
      have hkd : decide ((k : Int) < (k : Int)) = false := by simp
      go_wp2
      exact ⟨hO, hb⟩
end Go.Proofs.YtipehnojibdfeaaGreat

/- The contract of aes's Ctr. -/
namespace Go.Proofs.YtipehnojibdfeaaGreat
open Go Go.Proofs Go.RowKit

def cnt0 (st : List UInt8) : Nat → Int := fun j => if j < 12 then byteAt st j else 0
def cnt (st : List UInt8) (b : Nat) : Nat → Int := cntF (cnt0 st) b 4
/-- a byte of the stream -/
def ksB (c : Nat → Int) (st : List UInt8) (j : Nat) : Int := encF c (cnt st (j / 16)) (j % 16)
def outF (c : Nat → Int) (st l : List UInt8) (p : Nat) : Nat → Int := fun j => if j < p then xor8 (byteAt l j) (ksB c st j) else byteAt l j
theorem cnt_of (st : List UInt8) (cc : Nat → Int) (b : Nat) (h : ∀ j, j < 12 → cc j = byteAt st j) (j : Nat) (hj : j < 16) : cntF cc b 4 j = cnt st b j := by
  unfold cnt cntF
  by_cases h1 : 12 ≤ j
  · rw [if_pos (by omega), if_pos (by omega)]
  · rw [if_neg (by omega), if_neg (by omega), h j (by omega), cnt0, if_pos (by omega)]
theorem laid_out (c : Nat → Int) (st l : List UInt8) (b m j : Nat) (hm : m ≤ 16) (hj : j < 16 * b + m ∨ 16 * (b + 1) ≤ j ∨ 16 * b + m ≤ j ∧ False) :
    laidF (outF c st l (16 * b)) (encF c (cnt st b)) (16 * b) m j = outF c st l (16 * (b + 1)) j := by
  unfold laidF outF ksB
  rcases hj with h | h | ⟨_, h⟩
  · by_cases h1 : 16 * b ≤ j
    · rw [if_pos ⟨h1, h⟩, if_neg (by omega), if_pos (by omega), show j / 16 = b by omega, show j - 16 * b = j % 16 by omega]
    · rw [if_neg (by omega), if_pos (by omega), if_pos (by omega)]
  · rw [if_neg (by omega), if_neg (by omega), if_neg (by omega)]
  · exact h.elim

set_option maxRecDepth 100000 in
set_option maxHeartbeats 4000000 in
theorem ctr_all (w : World) (B kB oB cB n cap : Nat) (hn : n ≤ 1048576) (hcap : n ≤ cap) (h1 : kB ≠ oB) (h2 : kB ≠ cB) (h3 : oB ≠ cB) (hBo : B ≤ oB) (hBc : B ≤ cB) (hBw : B ≤ w.heap.size) (c : Nat → Int) (st l : List UInt8) (hl : l.length = n) (hK0 : w.rowIs kB 162 240 (fun i => .int .u8 (c i))) (hC0 : w.rowIs cB 146 16 (fun j => .int .u8 (cnt0 st j))) (hO0 : CRow w oB 5 n (fun j => .int .u8 (outF c st l 0 j)))
    {c0 c1 c2 c3 c4 c5 c6 c7 i12 i13 i14 c15 c16 c17 c18 c19 c20 c21 c22 c23 c24 c25 c26 c27 c28 c29 c30 c31 c32 c33 i34 i35 i36 i37 i38 i39 i40 i41 i42 i43 i44 i45 i46 i47 i48 i49 i50 i51 i52 i53 i54 i55 i56 i57 i58 i59 i60 i61 i62 i63 i64 i65 i66 i67 i68 i69 i70 i71 i72 i73 i74 i75 i76 i77 i78 i79 c80 c81 : Value}
    (Q : Exit → Act → World → Prop) (hQ : ∀ (u11 u12 u13 u14 u34 u35 u36 u37 u38 u39 u40 u41 u42 u43 u44 u45 u46 u47 u48 u49 u50 u51 u52 u53 u54 u55 u56 u57 u58 u59 u60 u61 u62 u63 u64 u65 u66 u67 u68 u69 u70 u71 u72 u73 u74 u75 u76 u77 u78 u79 : Value) (w' : World), CRow w' oB 5 n (fun j => .int .u8 (outF c st l n j)) ∧ Below B w w' → Q .normal ⟨(c0 :: c1 :: c2 :: c3 :: c4 :: c5 :: c6 :: c7 :: .pointer (some ⟨kB, 0, none⟩) :: .slice (some ⟨oB, 0, none⟩) n cap :: .pointer (some ⟨cB, 0, none⟩) :: u11 :: u12 :: u13 :: u14 :: c15 :: c16 :: c17 :: c18 :: c19 :: c20 :: c21 :: c22 :: c23 :: c24 :: c25 :: c26 :: c27 :: c28 :: c29 :: c30 :: c31 :: c32 :: c33 :: u34 :: u35 :: u36 :: u37 :: u38 :: u39 :: u40 :: u41 :: u42 :: u43 :: u44 :: u45 :: u46 :: u47 :: u48 :: u49 :: u50 :: u51 :: u52 :: u53 :: u54 :: u55 :: u56 :: u57 :: u58 :: u59 :: u60 :: u61 :: u62 :: u63 :: u64 :: u65 :: u66 :: u67 :: u68 :: u69 :: u70 :: u71 :: u72 :: u73 :: u74 :: u75 :: u76 :: u77 :: u78 :: u79 :: c80 :: c81 :: []).toArray, []⟩ w') :
    (codeBlock 1 Tryz.f89).wp Tryz.prog Q ⟨(c0 :: c1 :: c2 :: c3 :: c4 :: c5 :: c6 :: c7 :: .pointer (some ⟨kB, 0, none⟩) :: .slice (some ⟨oB, 0, none⟩) n cap :: .pointer (some ⟨cB, 0, none⟩) :: .int .i64 0 :: i12 :: i13 :: i14 :: c15 :: c16 :: c17 :: c18 :: c19 :: c20 :: c21 :: c22 :: c23 :: c24 :: c25 :: c26 :: c27 :: c28 :: c29 :: c30 :: c31 :: c32 :: c33 :: i34 :: i35 :: i36 :: i37 :: i38 :: i39 :: i40 :: i41 :: i42 :: i43 :: i44 :: i45 :: i46 :: i47 :: i48 :: i49 :: i50 :: i51 :: i52 :: i53 :: i54 :: i55 :: i56 :: i57 :: i58 :: i59 :: i60 :: i61 :: i62 :: i63 :: i64 :: i65 :: i66 :: i67 :: i68 :: i69 :: i70 :: i71 :: i72 :: i73 :: i74 :: i75 :: i76 :: i77 :: i78 :: i79 :: c80 :: c81 :: []).toArray, []⟩ w := by
  conv => arg 2; whnf
  have HL : Hid (l.length = n) := hl
  clear hl
  go_wp2_with fail
  go_loopw [11] (fun i wr => ∃ b : Nat, 16 * b ≤ n + 15 ∧ i = .int .i64 ((16 * b : Nat) : Int) ∧ (∃ cc : Nat → Int, (∀ j, j < 12 → cc j = byteAt st j) ∧ wr.rowIs cB 146 16 (fun j => .int .u8 (cc j))) ∧ wr.rowIs kB 162 240 (fun i => .int .u8 (c i)) ∧ CRow wr oB 5 n (fun j => .int .u8 (outF c st l (16 * b) j)) ∧ Below B w wr) (fun i _ => n + 16 - (intOf i).toNat)
  case atStart => exact ⟨0, by omega, rfl, ⟨_, fun j hj => by simp [cnt0, hj], hC0⟩, hK0, hO0, Below.refl _ _⟩
  case round =>
    clear hC0 hK0 hO0
    obtain ⟨b, hb16, rfl, ⟨cc, hcc, hC⟩, hK, hO, hbw⟩ := hrel
    obtain ⟨p, hp⟩ : ∃ p, p = 16 * b := ⟨_, rfl⟩
    rw [← hp] at hb16 hO
    rw [← hp]
    have HP : Hid (p = 16 * b) := hp
    have hpb : p / 16 = b := by omega
    have HPB : Hid (p / 16 = b) := hpb
    clear hp hpb
    by_cases hpn : p < n
    · have hpd : decide ((p : Int) < (n : Int)) = true := by simp; omega
      go_upto_block 3 with (fail)
      refine ctr_count _ cB p (by omega) cc hC _ ?_
      intros
      rename_i w1 q1
      obtain ⟨hC1, g1⟩ := q1
      rw [HPB.out] at hC1
      have hC2 : w1.rowIs cB 146 16 (fun j => .int .u8 (cnt st b j)) := hC1.congr (fun j hj => by rw [cnt_of st cc b hcc j hj])
      have hK1 := rowIs_grown hK g1 (by simp; omega)
      have hO1 := hO.grown g1 (by simp; omega)
      have b1 := hbw.trans (below_of_grownBy g1 hBc (Nat.le_trans hBw hbw.size))
      clear hC hC1 hK hO hbw g1 hcc
      have hcb := rowIs_bk16 hC2
      have hi1 : (Tryz.prog.info? 146).map (·.size) = some (bk16 (cnt st b)).size := by rw [bk16_size]; exact cipher_info
      go_wp2_with ((with_reducible refine wpList_load_blk (o := ⟨some 54, .load _ _, _, _, _, _⟩) rfl 146 (.tmp 10) rfl cB rfl 146 _ _ hcb Tryz.underlying146 rfl hi1 ?_))
      refine (encipher_any w1 kB c (cnt st b) hK1).mono ?_
      rintro e w2 ⟨rfl, q2⟩
      clear hi1 hcb
      have hC3 := rowIs_later hC2 q2
      have hK3 := rowIs_later hK1 q2
      have hO3 := hO1.later q2
      have b2 := b1.trans (q2.mono (Nat.le_trans hBw b1.size))
      clear hC2 hK1 hO1 b1 q2
      have hi2 : (Tryz.prog.info? 146).map (·.size) = some (bk16 (encF c (cnt st b))).size := by rw [bk16_size]; exact cipher_info
      have hz := Blk.new w2 146 #[.int .u8 0, .int .u8 0, .int .u8 0, .int .u8 0, .int .u8 0, .int .u8 0, .int .u8 0, .int .u8 0, .int .u8 0, .int .u8 0, .int .u8 0, .int .u8 0, .int .u8 0, .int .u8 0, .int .u8 0, .int .u8 0]
      have hz3 : (#[.int .u8 0, .int .u8 0, .int .u8 0, .int .u8 0, .int .u8 0, .int .u8 0, .int .u8 0, .int .u8 0, .int .u8 0, .int .u8 0, .int .u8 0, .int .u8 0, .int .u8 0, .int .u8 0, .int .u8 0, .int .u8 0] : Array Value).size = (bk16 (encF c (cnt st b))).size := by rw [bk16_size]; rfl
      obtain ⟨m, hm⟩ : ∃ m, m = (min ((p : Int) + 16) (n : Int)).toNat - p := ⟨_, rfl⟩
      have hm16 : m ≤ 16 := by omega
      have hpm : p + m ≤ n := by omega
      have HM : Hid (m = (min ((p : Int) + 16) (n : Int)).toNat - p) := hm
      clear hm
      go_upto_block 5 with ((with_reducible refine wpList_store_row (op := ⟨none, .store _ _ _, _, _, _, _⟩) rfl 146 (.tmp 13) (.tmp 55) rfl w2.heap.size 146 _ _ rfl rfl hz hi2 hz3 (bk16_all _) ?_))
      rw [← HM.out]
      have hS4 : ((w2.alloc (.cells #[.int .u8 0, .int .u8 0, .int .u8 0, .int .u8 0, .int .u8 0, .int .u8 0, .int .u8 0, .int .u8 0, .int .u8 0, .int .u8 0, .int .u8 0, .int .u8 0, .int .u8 0, .int .u8 0, .int .u8 0, .int .u8 0] 146)).setRow w2.heap.size (bk16 (encF c (cnt st b)))).rowIs w2.heap.size 146 16 (fun j => .int .u8 (encF c (cnt st b) j)) := bk16_rowIs (hz.setRow _)
      have q4 : Below w2.heap.size w2 ((w2.alloc (.cells #[.int .u8 0, .int .u8 0, .int .u8 0, .int .u8 0, .int .u8 0, .int .u8 0, .int .u8 0, .int .u8 0, .int .u8 0, .int .u8 0, .int .u8 0, .int .u8 0, .int .u8 0, .int .u8 0, .int .u8 0, .int .u8 0] 146)).setRow w2.heap.size (bk16 (encF c (cnt st b)))) := below_setRow' ((Below.refl _ _).alloc (Nat.le_refl _) _) (Nat.le_refl _) _
      have hO4 := hO3.later q4
      have hC4 := rowIs_later hC3 q4
      have hK4 := rowIs_later hK3 q4
      have b4 := b2.trans (q4.mono (Nat.le_trans hBw b2.size))
      have hne4 : oB ≠ w2.heap.size := by have := hO3.lt; omega
      clear hO3 hC3 hK3 b2 q4 hz hi2 hz3
      refine ctr_lay _ oB w2.heap.size n cap p m hn hpm hm16 hne4 _ _ hS4 hO4 _ ?_
      intros
      rename_i w5 q5
      obtain ⟨hO5, g5⟩ := q5
      have hC5 := rowIs_grown hC4 g5 (by simp; omega)
      have hK5 := rowIs_grown hK4 g5 (by simp; omega)
      have b5 := b4.trans (below_of_grownBy g5 hBo (Nat.le_trans hBw b4.size))
      clear hO4 hC4 hK4 hS4 b4 g5
      have hmm := HM.out
      have hpp := HP.out
      have hnext : CRow w5 oB 5 n (fun j => .int .u8 (outF c st l (16 * (b + 1)) j)) := hO5.congr (fun j hj => congrArg (Value.int .u8) (by
        rw [hpp]
        exact laid_out c st l b m j hm16 (by omega)))
      have HN : Hid (p + 16 = 16 * (b + 1)) := by show p + 16 = 16 * (b + 1); omega
      have hb17 : 16 * (b + 1) ≤ n + 15 := by omega
      clear hO5 hmm hpp
      go_wp2
      go_roundw
      case rel => exact ⟨b + 1, hb17, by rw [← HN.out]; go_num, ⟨_, fun j hj => by rw [cnt, cntF, if_neg (by omega), cnt0, if_pos hj], hC5⟩, hK5, hnext, b5⟩
      case measure => simp [intOf]; omega
    · have hpd : decide ((p : Int) < (n : Int)) = false := by simp; omega
      have hfin : CRow wr oB 5 n (fun j => .int .u8 (outF c st l n j)) := hO.congr (fun j hj => congrArg (Value.int .u8) (by
        unfold outF; rw [if_pos (by omega), if_pos (by omega)]))
      clear hO hC
      go_wp2
      exact ⟨hfin, hbw⟩
end Go.Proofs.YtipehnojibdfeaaGreat
