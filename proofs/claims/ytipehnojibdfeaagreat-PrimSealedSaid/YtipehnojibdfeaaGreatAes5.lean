/- Pieces of aes's keys: the first words, a word of bytes put through the box, a word laid under another. -/
import Derived.Test.YtipehnojibdfeaaGreatAes3
namespace Go.Proofs.YtipehnojibdfeaaGreat
open Go Go.Proofs Go.RowKit

def kc0 (key : List UInt8) (k : Nat) : Nat → Int := fun j => if j < k then byteAt key j else 0
def kt0 (c : Nat → Int) (i : Nat) (k : Nat) : Int := c ((i - 1) * 4 + k)
def kt1 (c : Nat → Int) (i : Nat) : Nat → Int := if i % 8 = 0 then fun k => kt0 c i ((k + 1) % 4) else kt0 c i
def kt2 (c : Nat → Int) (i : Nat) : Nat → Int := if i % 8 = 0 ∨ i % 8 = 4 then fun k => sbox (kt1 c i k) else kt1 c i
def kt3 (c : Nat → Int) (p : Int) (i : Nat) : Nat → Int := if i % 8 = 0 then upd (kt2 c i) 0 (xor8 (kt2 c i 0) p) else kt2 c i
def kcT (c t : Nat → Int) (i k : Nat) : Nat → Int := fun j => if i * 4 ≤ j ∧ j < i * 4 + k then xor8 (c (j - 32)) (t (j - i * 4)) else c j
def kstep (cp : (Nat → Int) × Int) (i : Nat) : (Nat → Int) × Int := (kcT cp.1 (kt3 cp.1 cp.2 i) i 4, if i % 8 = 0 then twice8 cp.2 else cp.2)
def ksteps (key : List UInt8) : Nat → (Nat → Int) × Int
  | 0 => (kc0 key 32, 1)
  | n + 1 => kstep (ksteps key n) (8 + n)
/-- the rounds' keys -/
def keysF (key : List UInt8) : Nat → Int := (ksteps key 52).1
theorem kc0_in (key : List UInt8) (k j : Nat) : 0 ≤ kc0 key k j ∧ kc0 key k j < 256 := by
  unfold kc0; split
  · exact byteAt_in _ _
  · omega
theorem kcT_in (c t : Nat → Int) (i k j : Nat) (h : 0 ≤ c j ∧ c j < 256) : 0 ≤ kcT c t i k j ∧ kcT c t i k j < 256 := by
  unfold kcT; split
  · exact xor8_in _ _
  · exact h
theorem ksteps_in (key : List UInt8) (n j : Nat) : 0 ≤ (ksteps key n).1 j ∧ (ksteps key n).1 j < 256 := by
  induction n with
  | zero => exact kc0_in _ _ _
  | succ n ih => exact kcT_in _ _ _ _ _ ih
theorem ksteps_p (key : List UInt8) (n : Nat) : 0 ≤ (ksteps key n).2 ∧ (ksteps key n).2 < 256 := by
  induction n with
  | zero => simp [ksteps]
  | succ n ih =>
    simp only [ksteps, kstep]; split
    · exact twice8_in _
    · exact ih

set_option maxRecDepth 100000 in
set_option maxHeartbeats 4000000 in
theorem keys_first (w : World) (cB : Nat) (key : ByteArray) (hk : key.size = 32) (hC0 : w.rowIs cB 162 240 (fun j => .int .u8 (kc0 key.data.toList 0 j)))
    {c1 c2 i4 c5 c6 c7 c8 c9 c10 i13 i14 i15 i16 i17 i18 i19 i20 i21 i22 i23 i24 c25 c26 c27 c28 c29 c30 c31 c32 c33 c34 c35 c36 c37 c38 c39 c40 c41 c42 c43 c44 c45 c46 c47 c48 c49 c50 c51 c52 c53 c54 c55 c56 c57 c58 c59 c60 c61 c62 c63 c64 c65 c66 c67 c68 c69 c70 c71 c72 c73 c74 c75 c76 c77 c78 c79 c80 c81 c82 c83 c84 c85 c86 : Value}
    (Q : Exit → Act → World → Prop) (hQ : ∀ (u4 u12 u13 u14 u15 u16 u17 u18 u19 u20 u21 u22 u23 u24 : Value) (w' : World), w'.rowIs cB 162 240 (fun j => .int .u8 (kc0 key.data.toList 32 j)) ∧ w.grownBy w' (some cB) → Q .normal ⟨(.string key :: c1 :: c2 :: .pointer (some ⟨cB, 0, none⟩) :: u4 :: c5 :: c6 :: c7 :: c8 :: c9 :: c10 :: .int .i64 32 :: u12 :: u13 :: u14 :: u15 :: u16 :: u17 :: u18 :: u19 :: u20 :: u21 :: u22 :: u23 :: u24 :: c25 :: c26 :: c27 :: c28 :: c29 :: c30 :: c31 :: c32 :: c33 :: c34 :: c35 :: c36 :: c37 :: c38 :: c39 :: c40 :: c41 :: c42 :: c43 :: c44 :: c45 :: c46 :: c47 :: c48 :: c49 :: c50 :: c51 :: c52 :: c53 :: c54 :: c55 :: c56 :: c57 :: c58 :: c59 :: c60 :: c61 :: c62 :: c63 :: c64 :: c65 :: c66 :: c67 :: c68 :: c69 :: c70 :: c71 :: c72 :: c73 :: c74 :: c75 :: c76 :: c77 :: c78 :: c79 :: c80 :: c81 :: c82 :: c83 :: c84 :: c85 :: c86 :: []).toArray, []⟩ w') :
    (codeBlock 0 Tryz.f103).wp Tryz.prog Q ⟨(.string key :: c1 :: c2 :: .pointer (some ⟨cB, 0, none⟩) :: i4 :: c5 :: c6 :: c7 :: c8 :: c9 :: c10 :: .int .i64 32 :: .int .i64 0 :: i13 :: i14 :: i15 :: i16 :: i17 :: i18 :: i19 :: i20 :: i21 :: i22 :: i23 :: i24 :: c25 :: c26 :: c27 :: c28 :: c29 :: c30 :: c31 :: c32 :: c33 :: c34 :: c35 :: c36 :: c37 :: c38 :: c39 :: c40 :: c41 :: c42 :: c43 :: c44 :: c45 :: c46 :: c47 :: c48 :: c49 :: c50 :: c51 :: c52 :: c53 :: c54 :: c55 :: c56 :: c57 :: c58 :: c59 :: c60 :: c61 :: c62 :: c63 :: c64 :: c65 :: c66 :: c67 :: c68 :: c69 :: c70 :: c71 :: c72 :: c73 :: c74 :: c75 :: c76 :: c77 :: c78 :: c79 :: c80 :: c81 :: c82 :: c83 :: c84 :: c85 :: c86 :: []).toArray, []⟩ w := by
  conv => arg 2; whnf
  have hk1 : 32 ≤ key.size := by omega
  have hk2 : key.size ≤ 32 := by omega
  clear hk
  go_wp2_with fail
  go_loopw [12] (fun i wr => ∃ k : Nat, k ≤ 32 ∧ i = .int .i64 k ∧ wr.rowIs cB 162 240 (fun j => .int .u8 (kc0 key.data.toList k j)) ∧ w.grownBy wr (some cB)) (fun i _ => 32 - (intOf i).toNat)
  case atStart => exact ⟨0, by omega, rfl, hC0, grownBy_refl _ _⟩
  case round =>
    clear hC0
    obtain ⟨k, hk, rfl, hC, hb⟩ := hrel
    by_cases hk32 : k < 32
    · have hks : k < key.size := by omega
      obtain ⟨we, hwe⟩ : ∃ we, we = wr := ⟨_, rfl⟩
      rw [← hwe]
      rw [← hwe] at hC hb
      clear hwe
      go_wp2_with fail
      refine wp_region_later_tail 9 (by kernel_rfl) (by kernel_rfl) ?_
      simp only [List.take_succ_cons, List.take_zero, List.drop_succ_cons, List.drop_zero]
      repeat (go_big_quiet_step (fail))
      refine wpQuiet_nil ?_
      intro _ hw'
      obtain ⟨x, hw''⟩ := hw'
      subst hw''
      have hfz := (rowIs_later hC x.h).frozen (k / 4 * 4 + k % 4)
      have hmc := (rowIs_later hC x.h).cell (i := k / 4 * 4 + k % 4) (by omega)
      go_wp2
      go_roundw
      case rel =>
        refine ⟨k + 1, by omega, by go_num, ((rowIs_later hC x.h).set (k / 4 * 4 + k % 4) _).congr (fun j _ => ?_), grownBy_set (grownBy_later hb x.h) _⟩
        have e : k / 4 * 4 + k % 4 = k := by omega
        rw [e]
        by_cases hj : j = k
        · subst hj
          have : byteAt key.data.toList j = (key[j].toNat : Int) := byteAt_get key.data.toList j (by simpa using hks)
          simp [kc0, this]
        · simp [kc0, hj, show (j < k + 1) = (j < k) from propext (by omega)]
      case measure => simp [intOf]; omega
    · obtain rfl : k = 32 := by omega
      go_wp2
      exact ⟨hC, hb⟩

set_option maxRecDepth 100000 in
set_option maxHeartbeats 4000000 in
theorem keys_sub (w : World) (tB : Nat) (t : Nat → Int) (htr : ∀ i, i < 4 → 0 ≤ t i ∧ t i < 256) (hT0 : w.rowIs tB 160 4 (fun i => .int .u8 (t i)))
    {c0 c1 c2 c3 c4 c5 c6 i8 c9 c10 c11 c12 c13 c14 c15 c16 c17 c18 c19 c20 c21 c22 c23 c24 c25 c26 c27 c28 c29 c30 c31 c32 c33 c34 c35 c36 c37 c38 c39 c40 c41 c42 c43 c44 c45 c46 c47 i49 i50 i51 i52 i53 i54 i55 i56 i57 i58 c59 c60 c61 c62 c63 c64 c65 c66 c67 c68 c69 c70 c71 c72 c73 c74 c75 c76 c77 c78 c79 c80 c81 c82 c83 c84 c85 c86 : Value}
    (Q : Exit → Act → World → Prop) (hQ : ∀ (u8 u48 u49 u50 u51 u52 u53 u54 u55 u56 u57 u58 : Value) (w' : World), w'.rowIs tB 160 4 (fun i => .int .u8 (sbox (t i))) ∧ w.grownBy w' (some tB) → Q .normal ⟨(c0 :: c1 :: c2 :: c3 :: c4 :: c5 :: c6 :: .pointer (some ⟨tB, 0, none⟩) :: u8 :: c9 :: c10 :: c11 :: c12 :: c13 :: c14 :: c15 :: c16 :: c17 :: c18 :: c19 :: c20 :: c21 :: c22 :: c23 :: c24 :: c25 :: c26 :: c27 :: c28 :: c29 :: c30 :: c31 :: c32 :: c33 :: c34 :: c35 :: c36 :: c37 :: c38 :: c39 :: c40 :: c41 :: c42 :: c43 :: c44 :: c45 :: c46 :: c47 :: u48 :: u49 :: u50 :: u51 :: u52 :: u53 :: u54 :: u55 :: u56 :: u57 :: u58 :: c59 :: c60 :: c61 :: c62 :: c63 :: c64 :: c65 :: c66 :: c67 :: c68 :: c69 :: c70 :: c71 :: c72 :: c73 :: c74 :: c75 :: c76 :: c77 :: c78 :: c79 :: c80 :: c81 :: c82 :: c83 :: c84 :: c85 :: c86 :: []).toArray, []⟩ w') :
    (codeBlock 7 Tryz.f103).wp Tryz.prog Q ⟨(c0 :: c1 :: c2 :: c3 :: c4 :: c5 :: c6 :: .pointer (some ⟨tB, 0, none⟩) :: i8 :: c9 :: c10 :: c11 :: c12 :: c13 :: c14 :: c15 :: c16 :: c17 :: c18 :: c19 :: c20 :: c21 :: c22 :: c23 :: c24 :: c25 :: c26 :: c27 :: c28 :: c29 :: c30 :: c31 :: c32 :: c33 :: c34 :: c35 :: c36 :: c37 :: c38 :: c39 :: c40 :: c41 :: c42 :: c43 :: c44 :: c45 :: c46 :: c47 :: .int .i64 0 :: i49 :: i50 :: i51 :: i52 :: i53 :: i54 :: i55 :: i56 :: i57 :: i58 :: c59 :: c60 :: c61 :: c62 :: c63 :: c64 :: c65 :: c66 :: c67 :: c68 :: c69 :: c70 :: c71 :: c72 :: c73 :: c74 :: c75 :: c76 :: c77 :: c78 :: c79 :: c80 :: c81 :: c82 :: c83 :: c84 :: c85 :: c86 :: []).toArray, []⟩ w := by
  conv => arg 2; whnf
  go_wp2_with fail
  go_loopw [48] (fun i wr => ∃ k : Nat, k ≤ 4 ∧ i = .int .i64 k ∧ wr.rowIs tB 160 4 (fun j => .int .u8 (if j < k then sbox (t j) else t j)) ∧ w.grownBy wr (some tB)) (fun i _ => 4 - (intOf i).toNat)
  case atStart => exact ⟨0, by omega, rfl, by simpa using hT0, grownBy_refl _ _⟩
  case round =>
    clear hT0
    obtain ⟨k, hk, rfl, hT, hb⟩ := hrel
    by_cases hk4 : k < 4
    · obtain ⟨we, hwe⟩ : ∃ we, we = wr := ⟨_, rfl⟩
      rw [← hwe]
      rw [← hwe] at hT hb
      clear hwe
      have hx := htr k hk4
      have hidx := box_index (t k) hx.1 hx.2
      have D1 : we.cell? ⟨tB, k, none⟩ = some (.int .u8 (t k)) := by have := hT.cell (i := k) hk4; rw [if_neg (by omega)] at this; exact this
      have C1 := later_cell D1
      clear D1 htr
      go_wp2_with fail
      refine wp_region_later_tail 7 (by kernel_rfl) (by kernel_rfl) ?_
      simp only [List.take_succ_cons, List.take_zero, List.drop_succ_cons, List.drop_zero]
      repeat (go_big_quiet_step (((go_at_call 112; exact later_of (box_any _)))))
      refine wpQuiet_nil ?_
      intro _ hw'
      obtain ⟨x, hw''⟩ := hw'
      subst hw''
      have hfz := (rowIs_later hT x.h).frozen k
      have hmc := (rowIs_later hT x.h).cell (i := k) hk4
      go_wp2
      go_roundw
      case rel =>
        refine ⟨k + 1, by omega, by go_num, ((rowIs_later hT x.h).set k _).congr (fun j _ => ?_), grownBy_set (grownBy_later hb x.h) _⟩
        by_cases hj : j = k
        · subst hj; simp
        · simp [hj, show (j < k + 1) = (j < k) from propext (by omega)]
      case measure => simp [intOf]; omega
    · obtain rfl : k = 4 := by omega
      go_wp2
      exact ⟨hT.congr (fun i hi => by simp [hi]), hb⟩

set_option maxRecDepth 100000 in
set_option maxHeartbeats 4000000 in
theorem keys_lay (w : World) (cB tB i : Nat) (hi : 8 ≤ i) (hi2 : i < 60) (hne : cB ≠ tB) (c t : Nat → Int) (hT0 : w.rowIs tB 160 4 (fun i => .int .u8 (t i))) (hC0 : w.rowIs cB 162 240 (fun j => .int .u8 (c j)))
    {c0 c1 c2 c4 c5 c8 i9 c10 c11 c12 c13 c14 c15 c16 c17 c18 c19 c20 c21 c22 c23 c24 c25 c26 c27 c28 c29 c30 c31 c32 c33 c34 c35 c36 c37 c38 c39 c40 c41 c42 c43 c44 c45 c46 c47 c48 c49 c50 c51 c52 c53 c54 c55 c56 c57 c58 c59 c60 c61 c62 c63 c64 c65 c66 c67 c68 i70 i71 i72 i73 i74 i75 i76 i77 i78 i79 i80 i81 i82 i83 i84 i85 i86 : Value}
    (Q : Exit → Act → World → Prop) (hQ : ∀ (u9 u69 u70 u71 u72 u73 u74 u75 u76 u77 u78 u79 u80 u81 u82 u83 u84 u85 u86 : Value) (w' : World), w'.rowIs cB 162 240 (fun j => .int .u8 (kcT c t i 4 j)) ∧ w.grownBy w' (some cB) → Q .normal ⟨(c0 :: c1 :: c2 :: .pointer (some ⟨cB, 0, none⟩) :: c4 :: c5 :: .int .i64 i :: .pointer (some ⟨tB, 0, none⟩) :: c8 :: u9 :: c10 :: c11 :: c12 :: c13 :: c14 :: c15 :: c16 :: c17 :: c18 :: c19 :: c20 :: c21 :: c22 :: c23 :: c24 :: c25 :: c26 :: c27 :: c28 :: c29 :: c30 :: c31 :: c32 :: c33 :: c34 :: c35 :: c36 :: c37 :: c38 :: c39 :: c40 :: c41 :: c42 :: c43 :: c44 :: c45 :: c46 :: c47 :: c48 :: c49 :: c50 :: c51 :: c52 :: c53 :: c54 :: c55 :: c56 :: c57 :: c58 :: c59 :: c60 :: c61 :: c62 :: c63 :: c64 :: c65 :: c66 :: c67 :: c68 :: u69 :: u70 :: u71 :: u72 :: u73 :: u74 :: u75 :: u76 :: u77 :: u78 :: u79 :: u80 :: u81 :: u82 :: u83 :: u84 :: u85 :: u86 :: []).toArray, []⟩ w') :
    (codeBlock 9 Tryz.f103).wp Tryz.prog Q ⟨(c0 :: c1 :: c2 :: .pointer (some ⟨cB, 0, none⟩) :: c4 :: c5 :: .int .i64 i :: .pointer (some ⟨tB, 0, none⟩) :: c8 :: i9 :: c10 :: c11 :: c12 :: c13 :: c14 :: c15 :: c16 :: c17 :: c18 :: c19 :: c20 :: c21 :: c22 :: c23 :: c24 :: c25 :: c26 :: c27 :: c28 :: c29 :: c30 :: c31 :: c32 :: c33 :: c34 :: c35 :: c36 :: c37 :: c38 :: c39 :: c40 :: c41 :: c42 :: c43 :: c44 :: c45 :: c46 :: c47 :: c48 :: c49 :: c50 :: c51 :: c52 :: c53 :: c54 :: c55 :: c56 :: c57 :: c58 :: c59 :: c60 :: c61 :: c62 :: c63 :: c64 :: c65 :: c66 :: c67 :: c68 :: .int .i64 0 :: i70 :: i71 :: i72 :: i73 :: i74 :: i75 :: i76 :: i77 :: i78 :: i79 :: i80 :: i81 :: i82 :: i83 :: i84 :: i85 :: i86 :: []).toArray, []⟩ w := by
  conv => arg 2; whnf
  go_wp2_with fail
  go_loopw [69] (fun q wr => ∃ k : Nat, k ≤ 4 ∧ q = .int .i64 k ∧ wr.rowIs cB 162 240 (fun j => .int .u8 (kcT c t i k j)) ∧ w.grownBy wr (some cB)) (fun i _ => 4 - (intOf i).toNat)
  case atStart => exact ⟨0, by omega, rfl, hC0.congr (fun j _ => by simp only [kcT]; rw [if_neg (by omega)]), grownBy_refl _ _⟩
  case round =>
    clear hC0
    obtain ⟨k, hk, rfl, hC, hb⟩ := hrel
    by_cases hk4 : k < 4
    · have hTr := rowIs_grown hT0 hb (by simp; omega)
      obtain ⟨we, hwe⟩ : ∃ we, we = wr := ⟨_, rfl⟩
      rw [← hwe]
      rw [← hwe] at hC hb hTr
      clear hwe
      have D1 : we.cell? ⟨cB, (i - 8) * 4 + k, none⟩ = some (.int .u8 (c ((i - 8) * 4 + k))) := by
        have := hC.cell (i := (i - 8) * 4 + k) (by omega)
        simp only [kcT] at this
        rw [if_neg (by omega)] at this; exact this
      have C1 := later_cell D1
      have C2 := later_cell (hTr.cell (i := k) hk4)
      clear D1 hT0 hTr
      go_wp2_with fail
      refine wp_region_later_tail 14 (by kernel_rfl) (by kernel_rfl) ?_
      simp only [List.take_succ_cons, List.take_zero, List.drop_succ_cons, List.drop_zero]
      repeat (go_big_quiet_step (fail))
      refine wpQuiet_nil ?_
      intro _ hw'
      obtain ⟨x, hw''⟩ := hw'
      subst hw''
      have hfz := (rowIs_later hC x.h).frozen (i * 4 + k)
      have hmc := (rowIs_later hC x.h).cell (i := i * 4 + k) (by omega)
      go_wp2
      go_roundw
      case rel =>
        refine ⟨k + 1, by omega, by go_num, ((rowIs_later hC x.h).set (i * 4 + k) _).congr (fun j _ => ?_), grownBy_set (grownBy_later hb x.h) _⟩
        by_cases hj : j = i * 4 + k
        · subst hj
          have e : i * 4 + k - 32 = (i - 8) * 4 + k := by omega
          simp [kcT, xor8, e]
        · simp only [kcT, if_neg hj]
          by_cases h2 : i * 4 ≤ j ∧ j < i * 4 + k
          · rw [if_pos h2, if_pos (by omega)]
          · rw [if_neg h2, if_neg (by omega)]
      case measure => simp [intOf]; omega
    · obtain rfl : k = 4 := by omega
      go_wp2
      exact ⟨hC, hb⟩
end Go.Proofs.YtipehnojibdfeaaGreat
