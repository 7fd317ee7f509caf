/- The contract of the cipher's encipher: it computes its Lean twin. -/
import Derived.Test.YtipehnojibdfeaaGreatAes2
namespace Go.Proofs.YtipehnojibdfeaaGreat
open Go Go.Proofs Go.RowKit

def bk16 (s : Nat → Int) : Array Value := Array.ofFn (n := 16) fun i => Value.int .u8 (s i.1)
theorem bk16_size (s : Nat → Int) : (bk16 s).size = 16 := by simp [bk16]
theorem bk16_get (s : Nat → Int) (i : Nat) (h : i < 16) : (bk16 s)[i]? = some (.int .u8 (s i)) := by simp [bk16, h]
theorem rowIs_bk16 {w : World} {b : Nat} {t : TypeId} {s : Nat → Int} (h : w.rowIs b t 16 (fun i => .int .u8 (s i))) : Blk w b t (bk16 s) := by
  obtain ⟨c, h1, h2, h3⟩ := h
  have : c = bk16 s := by
    apply Array.ext_getElem?
    intro i
    by_cases hi : i < 16
    · rw [h3 i hi, bk16_get s i hi]
    · rw [Array.getElem?_eq_none (by omega), Array.getElem?_eq_none (by rw [bk16_size]; omega)]
  rw [← this]
  exact h1
theorem bk16_rowIs {w : World} {b : Nat} {t : TypeId} {s : Nat → Int} (h : Blk w b t (bk16 s)) : w.rowIs b t 16 (fun i => .int .u8 (s i)) := ⟨_, h, bk16_size s, fun i hi => bk16_get s i hi⟩
theorem bk16_all (s : Nat → Int) : (bk16 s).all (·.oneCell') = true := by
  rw [Array.all_eq_true_iff_forall_mem]
  intro v hv
  simp only [bk16, Array.mem_ofFn] at hv
  obtain ⟨i, rfl⟩ := hv
  rfl
theorem bk16_congr {s t : Nat → Int} (h : ∀ i, i < 16 → s i = t i) : bk16 s = bk16 t := by
  apply Array.ext_getElem?
  intro i
  by_cases hi : i < 16
  · rw [bk16_get s i hi, bk16_get t i hi, h i hi]
  · rw [Array.getElem?_eq_none (by rw [bk16_size]; omega), Array.getElem?_eq_none (by rw [bk16_size]; omega)]

theorem box_index (x : Int) (h0 : 0 ≤ x) (h1 : x < 256) (W : World) : (Instr.index 163 (.agg boxAgg) (.int .u8 x)).run Tryz.prog W = .ok (.int .u8 (sbox x)) W := by
  have e : ((x.toNat : Nat) : Int) = x := by omega
  have h := run_index_agg (P := Tryz.prog) 163 5 256 boxAgg .u8 x.toNat Tryz.underlying163 Tryz.sizeOf5 Tryz.isAgg5 (by omega) _ (boxAgg_get x.toNat (by omega)) W
  rw [e] at h
  exact h

def subT (s : Nat → Int) (i : Nat) : Int := sbox (s ((i + 4 * (i % 4)) % 16))
def mix4 (t : Nat → Int) (j : Nat) : Int := mixC (fun i => t (4 * (j / 4) + i)) (j % 4)
def roundE (c : Nat → Int) (s : Nat → Int) (r : Nat) : Nat → Int := addK c (r + 1) (if r < 13 then mix4 (subT s) else subT s) 16
def roundsE (c : Nat → Int) (s : Nat → Int) : Nat → (Nat → Int)
  | 0 => addK c 0 s 16
  | r + 1 => roundE c (roundsE c s r) r
/-- a block, enciphered -/
def encF (c s : Nat → Int) : Nat → Int := roundsE c s 14
theorem addK_in (c s : Nat → Int) (r i : Nat) (h : i < 16) : 0 ≤ addK c r s 16 i ∧ addK c r s 16 i < 256 := by
  simp only [addK, if_pos h]; exact xor8_in _ _
theorem roundsE_in (c s : Nat → Int) (r i : Nat) (h : i < 16) : 0 ≤ roundsE c s r i ∧ roundsE c s r i < 256 := by
  cases r with
  | zero => exact addK_in _ _ _ _ h
  | succ r => exact addK_in _ _ _ _ h

set_option maxRecDepth 100000 in
set_option maxHeartbeats 4000000 in
theorem enc_sub (w : World) (sB tB : Nat) (s t : Nat → Int) (hne : sB ≠ tB) (hsr : ∀ i, i < 16 → 0 ≤ s i ∧ s i < 256) (hS : w.rowIs sB 146 16 (fun i => .int .u8 (s i))) (hTb : w.rowIs tB 146 16 (fun i => .int .u8 (t i)))
    {c0 c1 c2 c4 c5 i7 c8 c9 c10 c11 c12 c13 c14 i16 i17 i18 i19 i20 i21 i22 i23 i24 i25 i26 i27 i28 i29 i30 c31 c32 c33 c34 c35 c36 c37 c38 c39 c40 c41 c42 c43 c44 c45 c46 c47 c48 c49 : Value}
    (Q : Exit → Act → World → Prop) (hQ : ∀ (u7 u15 u16 u17 u18 u19 u20 u21 u22 u23 u24 u25 u26 u27 u28 u29 u30 : Value) (w' : World), w'.rowIs tB 146 16 (fun j => .int .u8 (subT s j)) ∧ w.grownBy w' (some tB) → Q .normal ⟨(c0 :: c1 :: c2 :: .pointer (some ⟨sB, 0, none⟩) :: c4 :: c5 :: .pointer (some ⟨tB, 0, none⟩) :: u7 :: c8 :: c9 :: c10 :: c11 :: c12 :: c13 :: c14 :: u15 :: u16 :: u17 :: u18 :: u19 :: u20 :: u21 :: u22 :: u23 :: u24 :: u25 :: u26 :: u27 :: u28 :: u29 :: u30 :: c31 :: c32 :: c33 :: c34 :: c35 :: c36 :: c37 :: c38 :: c39 :: c40 :: c41 :: c42 :: c43 :: c44 :: c45 :: c46 :: c47 :: c48 :: c49 :: []).toArray, []⟩ w') :
    (codeBlock 2 Tryz.f104).wp Tryz.prog Q ⟨(c0 :: c1 :: c2 :: .pointer (some ⟨sB, 0, none⟩) :: c4 :: c5 :: .pointer (some ⟨tB, 0, none⟩) :: i7 :: c8 :: c9 :: c10 :: c11 :: c12 :: c13 :: c14 :: .int .i64 0 :: i16 :: i17 :: i18 :: i19 :: i20 :: i21 :: i22 :: i23 :: i24 :: i25 :: i26 :: i27 :: i28 :: i29 :: i30 :: c31 :: c32 :: c33 :: c34 :: c35 :: c36 :: c37 :: c38 :: c39 :: c40 :: c41 :: c42 :: c43 :: c44 :: c45 :: c46 :: c47 :: c48 :: c49 :: []).toArray, []⟩ w := by
  conv => arg 2; whnf
  go_wp2_with fail
  go_loopw [15] (fun i wr => ∃ k : Nat, k ≤ 16 ∧ i = .int .i64 k ∧ wr.rowIs tB 146 16 (fun j => .int .u8 (if j < k then subT s j else t j)) ∧ w.grownBy wr (some tB)) (fun i _ => 16 - (intOf i).toNat)
  case atStart => exact ⟨0, by omega, rfl, by simpa using hTb, grownBy_refl _ _⟩
  case round =>
    clear hTb
    obtain ⟨k, hk, rfl, hT, hb⟩ := hrel
    by_cases hk16 : k < 16
    · have hSr := rowIs_grown hS hb (by simp; omega)
      obtain ⟨we, hwe⟩ : ∃ we, we = wr := ⟨_, rfl⟩
      rw [← hwe]
      rw [← hwe] at hSr hT hb
      clear hwe
      have hx := hsr ((k + 4 * (k % 4)) % 16) (by omega)
      have hidx := box_index (s ((k + 4 * (k % 4)) % 16)) hx.1 hx.2
      have C1 := later_cell (hSr.cell (i := (k + 4 * (k % 4)) % 16) (by omega))
      clear hS hSr hsr
      go_wp2_with fail
      refine wp_region_later_tail 12 (by kernel_rfl) (by kernel_rfl) ?_
      simp only [List.take_succ_cons, List.take_zero, List.drop_succ_cons, List.drop_zero]
      repeat (go_big_quiet_step (((go_at_call 112; exact later_of (box_any _)))))
      refine wpQuiet_nil ?_
      intro _ hw'
      obtain ⟨x, hw''⟩ := hw'
      subst hw''
      have hfz := (rowIs_later hT x.h).frozen k
      have hmc := (rowIs_later hT x.h).cell (i := k) hk16
      go_wp2
      go_roundw
      case rel =>
        refine ⟨k + 1, by omega, by go_num, ((rowIs_later hT x.h).set k _).congr (fun j _ => ?_), grownBy_set (grownBy_later hb x.h) _⟩
        by_cases hj : j = k
        · subst hj; simp [subT]
        · simp [hj, show (j < k + 1) = (j < k) from propext (by omega)]
      case measure => simp [intOf]; omega
    · obtain rfl : k = 16 := by omega
      go_wp2
      exact ⟨hT.congr (fun i hi => by simp [hi]), hb⟩

theorem slice16 (tB : Nat) : ∀ (m : Nat) (_ : m < 4) (W : World), (Instr.sliceAt 146 (.pointer (some ⟨tB, 0, none⟩)) (some (.int .i64 ((4 * m : Nat) : Int))) (some (.int .i64 (((4 * m : Nat) : Int) + 4))) none).run Tryz.prog W = .ok (.slice (some ⟨tB, 4 * m, none⟩) 4 (16 - 4 * m)) W
  | 0, _, _ => by kernel_rfl
  | 1, _, _ => by kernel_rfl
  | 2, _, _ => by kernel_rfl
  | 3, _, _ => by kernel_rfl

set_option maxRecDepth 100000 in
set_option maxHeartbeats 4000000 in
theorem enc_mix (w : World) (tB : Nat) (t : Nat → Int) (hT0 : w.rowIs tB 146 16 (fun i => .int .u8 (t i)))
    {c0 c1 c2 c3 c4 c5 c7 c10 c11 c12 c13 c14 c15 c16 c17 c18 c19 c20 c21 c22 c23 c24 c25 c26 c27 c28 c29 c30 c31 c32 i33 i34 i35 i36 i37 i38 i39 i40 i41 i42 c43 c44 c45 c46 c47 c48 c49 : Value}
    (Q : Exit → Act → World → Prop) (hQ : ∀ (u9 u33 u34 u35 u36 u37 u38 u39 u40 u41 u42 : Value) (w' : World), w'.rowIs tB 146 16 (fun j => .int .u8 (mix4 t j)) ∧ w.grownBy w' (some tB) → Q .normal ⟨(c0 :: c1 :: c2 :: c3 :: c4 :: c5 :: .pointer (some ⟨tB, 0, none⟩) :: c7 :: .func (.func 115) #[] #[] :: u9 :: c10 :: c11 :: c12 :: c13 :: c14 :: c15 :: c16 :: c17 :: c18 :: c19 :: c20 :: c21 :: c22 :: c23 :: c24 :: c25 :: c26 :: c27 :: c28 :: c29 :: c30 :: c31 :: c32 :: u33 :: u34 :: u35 :: u36 :: u37 :: u38 :: u39 :: u40 :: u41 :: u42 :: c43 :: c44 :: c45 :: c46 :: c47 :: c48 :: c49 :: []).toArray, []⟩ w') :
    (codeBlock 4 Tryz.f104).wp Tryz.prog Q ⟨(c0 :: c1 :: c2 :: c3 :: c4 :: c5 :: .pointer (some ⟨tB, 0, none⟩) :: c7 :: .func (.func 115) #[] #[] :: .int .i64 0 :: c10 :: c11 :: c12 :: c13 :: c14 :: c15 :: c16 :: c17 :: c18 :: c19 :: c20 :: c21 :: c22 :: c23 :: c24 :: c25 :: c26 :: c27 :: c28 :: c29 :: c30 :: c31 :: c32 :: i33 :: i34 :: i35 :: i36 :: i37 :: i38 :: i39 :: i40 :: i41 :: i42 :: c43 :: c44 :: c45 :: c46 :: c47 :: c48 :: c49 :: []).toArray, []⟩ w := by
  conv => arg 2; whnf
  go_wp2_with fail
  go_loopw [9] (fun i wr => ∃ m : Nat, m ≤ 4 ∧ i = .int .i64 ((4 * m : Nat) : Int) ∧ wr.rowIs tB 146 16 (fun j => .int .u8 (if j < 4 * m then mix4 t j else t j)) ∧ w.grownBy wr (some tB)) (fun i _ => 16 - (intOf i).toNat)
  case atStart => exact ⟨0, by omega, rfl, by simpa using hT0, grownBy_refl _ _⟩
  case round =>
    clear hT0
    obtain ⟨m, hm, rfl, hT, hb⟩ := hrel
    obtain ⟨k, hk⟩ : ∃ k, k = 4 * m := ⟨_, rfl⟩
    rw [← hk] at hT
    rw [← hk]
    have HK : Hid (k = 4 * m) := hk
    have hk16 : k ≤ 16 := by omega
    have hk4 : m < 4 → k + 4 ≤ 16 := by omega
    clear hk
    by_cases hm4 : m < 4
    · have hk4' := hk4 hm4
      have hkl : k < 16 := by omega
      clear hk4
      have hsl := slice16 tB m hm4
      rw [← HK.out] at hsl
      go_wp2_with fail
      refine (mix_any wr tB k 4 (16 - k) (Nat.le_refl _) _ hk4' hT).mono ?_
      rintro e w1 ⟨rfl, hT1, hb1⟩
      have hb2 := grownBy_trans hb hb1
      have hT2 : w1.rowIs tB 146 16 (fun j => .int .u8 (if j < 4 * (m + 1) then mix4 t j else t j)) := hT1.congr (fun j hj => by
        have hke := HK.out
        by_cases h1 : k ≤ j ∧ j < k + 4
        · have e1 : j / 4 = m := by omega
          have e2 : j - k = j % 4 := by omega
          have e3 : (fun i => if k + i < k then mix4 t (k + i) else t (k + i)) = fun i => t (4 * m + i) := by
            funext i; rw [if_neg (by omega), hke]
          rw [if_pos h1, if_pos (by omega), mix4, e1, e2, e3]
        · rw [if_neg h1]
          by_cases h2 : j < k
          · rw [if_pos h2, if_pos (by omega)]
          · rw [if_neg h2, if_neg (by omega)])
      have hk5 : k + 4 = 4 * (m + 1) := by have := HK.out; omega
      clear hT hT1 hb hb1 hsl
      have HK5 : Hid (k + 4 = 4 * (m + 1)) := hk5
      clear hk5
      go_wp2
      go_roundw
      case rel => exact ⟨m + 1, by omega, by rw [← HK5.out]; go_num, hT2, hb2⟩
      case measure => simp [intOf]; omega
    · have hke : k = 16 := by have := HK.out; omega
      subst hke
      go_wp2
      exact ⟨hT.congr (fun i hi => by simp [hi]), hb⟩
end Go.Proofs.YtipehnojibdfeaaGreat
