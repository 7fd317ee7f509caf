/- Pieces of aes's Ctr: the rows of a conversion, the count of a block, a block laid under the text. -/
import Derived.Test.YtipehnojibdfeaaGreatAes6
import Derived.Lib.ConvBytes
namespace Go.Proofs.YtipehnojibdfeaaGreat
open Go Go.Proofs Go.RowKit

/-- a row that []byte(s) has made -/
def CRow (w : World) (g : Nat) (t : TypeId) (n : Nat) (f : Nat → Value) : Prop :=
  ∃ cs : Array Value, w.heap[g]? = some (.cells cs t (cs.size, cs.size + 1)) ∧ n ≤ cs.size ∧ ∀ i, i < n → cs[i]? = some (f i)
section
variable {w w' : World} {g : Nat} {t : TypeId} {n : Nat} {f : Nat → Value}
theorem CRow.lt (h : CRow w g t n f) : g < w.heap.size := by
  obtain ⟨cs, hh, _⟩ := h
  rcases Nat.lt_or_ge g w.heap.size with hlt | hge
  · exact hlt
  · rw [Array.getElem?_eq_none hge] at hh; cases hh
theorem CRow.cell (h : CRow w g t n f) {i : Nat} (hi : i < n) : w.cell? ⟨g, i, none⟩ = some (f i) := by
  obtain ⟨cs, hh, _, hc⟩ := h
  exact (cell_of_row w g i cs t _ hh).trans (hc i hi)
theorem CRow.frozen (h : CRow w g t n f) {i : Nat} (hi : i < n) : w.frozen? ⟨g, i, none⟩ = false := by
  obtain ⟨cs, hh, hn, _⟩ := h
  simp [World.frozen?, hh]; omega
theorem CRow.of_block (h : CRow w g t n f) (hb : w'.heap[g]? = w.heap[g]?) : CRow w' g t n f := by
  obtain ⟨cs, hh, r⟩ := h
  exact ⟨cs, hb.trans hh, r⟩
theorem CRow.below {B : Nat} (h : CRow w g t n f) (hb : Below B w w') (hl : g < B) : CRow w' g t n f := h.of_block (hb.block g hl)
theorem CRow.later (h : CRow w g t n f) (hb : Below w.heap.size w w') : CRow w' g t n f := h.below hb h.lt
theorem CRow.grown {row : Option Nat} (h : CRow w g t n f) (hb : w.grownBy w' row) (hne : some g ≠ row) : CRow w' g t n f := h.of_block (hb.block g h.lt hne)
theorem CRow.congr {f' : Nat → Value} (h : CRow w g t n f) (he : ∀ i, i < n → f i = f' i) : CRow w g t n f' := by
  obtain ⟨cs, hh, hn, hc⟩ := h
  exact ⟨cs, hh, hn, fun i hi => (hc i hi).trans (by rw [he i hi])⟩
theorem CRow.set (h : CRow w g t n f) (k : Nat) (u : Value) : CRow (w.setCell ⟨g, k, none⟩ u) g t n (fun i => if i = k then u else f i) := by
  obtain ⟨cs, hh, hn, hc⟩ := h
  refine ⟨cs.setIfInBounds k u, ?_, by simpa using hn, fun i hi => ?_⟩
  · simp [World.setCell, Array.getElem?_modify, hh]
  · rw [Array.getElem?_setIfInBounds]
    by_cases e : k = i
    · subst e; simp [show k < cs.size by omega]
    · have e' : ¬ i = k := fun q => e q.symm
      simp only [if_neg e, if_neg e']; exact hc i hi
theorem CRow.bytes (w : World) (e : TypeId) (s : ByteArray) : CRow (Lib.bytesWorld w e s) w.heap.size e s.size (fun i => .int .u8 (byteAt s.data.toList i)) := by
  refine ⟨Lib.bytesCells w e s, Lib.bytesWorld_at_new w e s, ?_, fun i hi => ?_⟩
  · have : s.data.size = s.size := rfl
    simp only [Lib.bytesCells, Array.size_append, Array.size_map]; omega
  · have := Lib.bytesWorld_cell w e s i hi
    simp only [World.cell?, Lib.bytesWorld_at_new] at this
    simpa [byteAt] using this
end

/-- the count of a block, its low bytes laid -/
def cntF (c : Nat → Int) (b : Nat) (k : Nat) : Nat → Int := fun j => if 16 - k ≤ j ∧ j < 16 then ((b / 2 ^ (8 * (15 - j)) % 256 : Nat) : Int) else c j
/-- a text with a block laid under it -/
def laidF (o s : Nat → Int) (p : Nat) (k : Nat) : Nat → Int := fun j => if p ≤ j ∧ j < p + k then xor8 (o j) (s (j - p)) else o j

set_option maxRecDepth 100000 in
set_option maxHeartbeats 4000000 in
theorem ctr_count (w : World) (cB p : Nat) (hp : p < 2097152) (c : Nat → Int) (hC0 : w.rowIs cB 146 16 (fun j => .int .u8 (c j)))
    {c0 c1 c2 c3 c4 c5 c6 c7 c8 c9 i12 c13 c14 c15 c16 c17 c18 c19 c20 c21 c22 c23 c24 c25 c26 c27 c28 c29 c30 c31 c32 c33 c34 c35 c36 c37 c38 c39 i41 i42 i43 i44 i45 i46 i47 i48 i49 i50 i51 i52 c53 c54 c55 c56 c57 c58 c59 c60 c61 c62 c63 c64 c65 c66 c67 c68 c69 c70 c71 c72 c73 c74 c75 c76 c77 c78 c79 c80 c81 : Value}
    (Q : Exit → Act → World → Prop) (hQ : ∀ (u12 u40 u41 u42 u43 u44 u45 u46 u47 u48 u49 u50 u51 u52 : Value) (w' : World), w'.rowIs cB 146 16 (fun j => .int .u8 (cntF c (p / 16) 4 j)) ∧ w.grownBy w' (some cB) → Q .normal ⟨(c0 :: c1 :: c2 :: c3 :: c4 :: c5 :: c6 :: c7 :: c8 :: c9 :: .pointer (some ⟨cB, 0, none⟩) :: .int .i64 p :: u12 :: c13 :: c14 :: c15 :: c16 :: c17 :: c18 :: c19 :: c20 :: c21 :: c22 :: c23 :: c24 :: c25 :: c26 :: c27 :: c28 :: c29 :: c30 :: c31 :: c32 :: c33 :: c34 :: c35 :: c36 :: c37 :: c38 :: c39 :: u40 :: u41 :: u42 :: u43 :: u44 :: u45 :: u46 :: u47 :: u48 :: u49 :: u50 :: u51 :: u52 :: c53 :: c54 :: c55 :: c56 :: c57 :: c58 :: c59 :: c60 :: c61 :: c62 :: c63 :: c64 :: c65 :: c66 :: c67 :: c68 :: c69 :: c70 :: c71 :: c72 :: c73 :: c74 :: c75 :: c76 :: c77 :: c78 :: c79 :: c80 :: c81 :: []).toArray, []⟩ w') :
    (codeBlock 3 Tryz.f89).wp Tryz.prog Q ⟨(c0 :: c1 :: c2 :: c3 :: c4 :: c5 :: c6 :: c7 :: c8 :: c9 :: .pointer (some ⟨cB, 0, none⟩) :: .int .i64 p :: i12 :: c13 :: c14 :: c15 :: c16 :: c17 :: c18 :: c19 :: c20 :: c21 :: c22 :: c23 :: c24 :: c25 :: c26 :: c27 :: c28 :: c29 :: c30 :: c31 :: c32 :: c33 :: c34 :: c35 :: c36 :: c37 :: c38 :: c39 :: .int .i64 0 :: i41 :: i42 :: i43 :: i44 :: i45 :: i46 :: i47 :: i48 :: i49 :: i50 :: i51 :: i52 :: c53 :: c54 :: c55 :: c56 :: c57 :: c58 :: c59 :: c60 :: c61 :: c62 :: c63 :: c64 :: c65 :: c66 :: c67 :: c68 :: c69 :: c70 :: c71 :: c72 :: c73 :: c74 :: c75 :: c76 :: c77 :: c78 :: c79 :: c80 :: c81 :: []).toArray, []⟩ w := by
  conv => arg 2; whnf
  go_wp2_with fail
  go_loopw [40] (fun i wr => ∃ k : Nat, k ≤ 4 ∧ i = .int .i64 k ∧ wr.rowIs cB 146 16 (fun j => .int .u8 (cntF c (p / 16) k j)) ∧ w.grownBy wr (some cB)) (fun i _ => 4 - (intOf i).toNat)
  case atStart => exact ⟨0, by omega, rfl, hC0.congr (fun j hj => by simp only [cntF]; rw [if_neg (by omega)]), grownBy_refl _ _⟩
  case round =>
    clear hC0
    obtain ⟨k, hk, rfl, hC, hb⟩ := hrel
    by_cases hk4 : k < 4
    · have hfz := hC.frozen (15 - k)
      have hmc := hC.cell (i := 15 - k) (by omega)
      go_wp2
      go_roundw
      case rel =>
        refine ⟨k + 1, by omega, by go_num, (hC.set (15 - k) _).congr (fun j hj => ?_), grownBy_set hb _⟩
        have hj16 : j < 16 := hj
        by_cases e : j = 15 - k
        · subst e
          simp only [if_true, cntF]
          rw [if_pos (by omega)]
          have e2 : 15 - (15 - k) = k := by omega
          rw [e2]
          exact congrArg (Value.int .u8) (by simp)
        · simp only [if_neg e, cntF]
          simp only [show (16 - (k + 1) ≤ j ∧ j < 16) = (16 - k ≤ j ∧ j < 16) from propext (by omega)]
      case measure => simp [intOf]; omega
    · obtain rfl : k = 4 := by omega
      go_wp2
      exact ⟨hC, hb⟩

set_option maxRecDepth 100000 in
set_option maxHeartbeats 4000000 in
theorem ctr_lay (w : World) (oB sB n cap p m : Nat) (hn : n ≤ 1048576) (hpm : p + m ≤ n) (hm : m ≤ 16) (hne : oB ≠ sB) (o s : Nat → Int) (hS0 : w.rowIs sB 146 16 (fun j => .int .u8 (s j))) (hO0 : CRow w oB 5 n (fun j => .int .u8 (o j)))
    {c0 c1 c2 c3 c4 c5 c6 c7 c8 c10 c12 i14 c15 c16 c17 c18 c19 c20 c21 c22 c23 c24 c25 c26 c27 c28 c29 c30 c31 c32 c33 c34 c35 c36 c37 c38 c39 c40 c41 c42 c43 c44 c45 c46 c47 c48 c49 c50 c51 c52 c53 c54 c55 c56 c57 c58 c59 c60 c61 c62 c63 i66 i67 i68 i69 i70 i71 i72 i73 i74 i75 i76 i77 i78 i79 c80 c81 : Value}
    (Q : Exit → Act → World → Prop) (hQ : ∀ (u14 u65 u66 u67 u68 u69 u70 u71 u72 u73 u74 u75 u76 u77 u78 u79 : Value) (w' : World), CRow w' oB 5 n (fun j => .int .u8 (laidF o s p m j)) ∧ w.grownBy w' (some oB) → Q .normal ⟨(c0 :: c1 :: c2 :: c3 :: c4 :: c5 :: c6 :: c7 :: c8 :: .slice (some ⟨oB, 0, none⟩) n cap :: c10 :: .int .i64 p :: c12 :: .pointer (some ⟨sB, 0, none⟩) :: u14 :: c15 :: c16 :: c17 :: c18 :: c19 :: c20 :: c21 :: c22 :: c23 :: c24 :: c25 :: c26 :: c27 :: c28 :: c29 :: c30 :: c31 :: c32 :: c33 :: c34 :: c35 :: c36 :: c37 :: c38 :: c39 :: c40 :: c41 :: c42 :: c43 :: c44 :: c45 :: c46 :: c47 :: c48 :: c49 :: c50 :: c51 :: c52 :: c53 :: c54 :: c55 :: c56 :: c57 :: c58 :: c59 :: c60 :: c61 :: c62 :: c63 :: .int .i64 m :: u65 :: u66 :: u67 :: u68 :: u69 :: u70 :: u71 :: u72 :: u73 :: u74 :: u75 :: u76 :: u77 :: u78 :: u79 :: c80 :: c81 :: []).toArray, []⟩ w') :
    (codeBlock 5 Tryz.f89).wp Tryz.prog Q ⟨(c0 :: c1 :: c2 :: c3 :: c4 :: c5 :: c6 :: c7 :: c8 :: .slice (some ⟨oB, 0, none⟩) n cap :: c10 :: .int .i64 p :: c12 :: .pointer (some ⟨sB, 0, none⟩) :: i14 :: c15 :: c16 :: c17 :: c18 :: c19 :: c20 :: c21 :: c22 :: c23 :: c24 :: c25 :: c26 :: c27 :: c28 :: c29 :: c30 :: c31 :: c32 :: c33 :: c34 :: c35 :: c36 :: c37 :: c38 :: c39 :: c40 :: c41 :: c42 :: c43 :: c44 :: c45 :: c46 :: c47 :: c48 :: c49 :: c50 :: c51 :: c52 :: c53 :: c54 :: c55 :: c56 :: c57 :: c58 :: c59 :: c60 :: c61 :: c62 :: c63 :: .int .i64 m :: .int .i64 0 :: i66 :: i67 :: i68 :: i69 :: i70 :: i71 :: i72 :: i73 :: i74 :: i75 :: i76 :: i77 :: i78 :: i79 :: c80 :: c81 :: []).toArray, []⟩ w := by
  conv => arg 2; whnf
  go_wp2_with fail
  go_loopw [65] (fun i wr => ∃ k : Nat, k ≤ m ∧ i = .int .i64 k ∧ CRow wr oB 5 n (fun j => .int .u8 (laidF o s p k j)) ∧ w.grownBy wr (some oB)) (fun i _ => m - (intOf i).toNat)
  case atStart => exact ⟨0, by omega, rfl, hO0.congr (fun j hj => by simp only [laidF]; rw [if_neg (by omega)]), grownBy_refl _ _⟩
  case round =>
    clear hO0
    obtain ⟨k, hk, rfl, hO, hb⟩ := hrel
    have hS := rowIs_grown hS0 hb (by simp; omega)
    by_cases hkm : k < m
    · have hkd : decide ((k : Int) < (m : Int)) = true := by simp; omega
      obtain ⟨we, hwe⟩ : ∃ we, we = wr := ⟨_, rfl⟩
      rw [← hwe]
      rw [← hwe] at hO hS hb
      clear hwe
      have hpk : p + k < n := by omega
      have hk16 : k < 16 := by omega
      have C1 := later_cell (hO.cell hpk)
      have C2 := later_cell (hS.cell (i := k) hk16)
      clear hS hS0
      go_wp2_with fail
      refine wp_region_later_tail 11 (by kernel_rfl) (by kernel_rfl) ?_
      simp only [List.take_succ_cons, List.take_zero, List.drop_succ_cons, List.drop_zero]
      repeat (go_big_quiet_step (fail))
      refine wpQuiet_nil ?_
      intro _ hw'
      obtain ⟨x, hw''⟩ := hw'
      subst hw''
      have hfz := (hO.later x.h).frozen hpk
      have hmc := (hO.later x.h).cell hpk
      go_wp2
      go_roundw
      case rel =>
        refine ⟨k + 1, by omega, by go_num, ((hO.later x.h).set (p + k) _).congr (fun j _ => ?_), grownBy_set (grownBy_later hb x.h) _⟩
        by_cases hj : j = p + k
        · subst hj; simp [laidF, xor8]
        · simp [laidF, hj, show (j < p + (k + 1)) = (j < p + k) from propext (by omega)]
      case measure => simp [intOf]; omega
    · obtain rfl : k = m := by omega
      have hkd : decide ((k : Int) < (k : Int)) = false := by simp
      go_wp2
      exact ⟨hO, hb⟩
end Go.Proofs.YtipehnojibdfeaaGreat
