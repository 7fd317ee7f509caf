/- The contract of aes's Ctr. -/
import Derived.Test.YtipehnojibdfeaaGreatAes4
import Derived.Test.YtipehnojibdfeaaGreatAes7
namespace Go.Proofs.YtipehnojibdfeaaGreat
open Go Go.Proofs Go.RowKit

def cnt0 (st : List UInt8) : Nat → Int := fun j => if j < 12 then byteAt st j else 0
def cnt (st : List UInt8) (b : Nat) : Nat → Int := cntF (cnt0 st) b 4
/-- a byte of the stream -/
def ksB (c : Nat → Int) (st : List UInt8) (j : Nat) : Int := encF c (cnt st (j / 16)) (j % 16)
def outF (c : Nat → Int) (st l : List UInt8) (p : Nat) : Nat → Int := fun j => if j < p then xor8 (byteAt l j) (ksB c st j) else byteAt l j
theorem cnt_of (st : List UInt8) (cc : Nat → Int) (b : Nat) (h : ∀ j, j < 12 → cc j = byteAt st j) (j : Nat) (hj : j < 16) : cntF cc b 4 j = cnt st b j := by
  unfold cnt cntF
  by_cases h1 : 12 ≤ j
  · rw [if_pos (by omega), if_pos (by omega)]
  · rw [if_neg (by omega), if_neg (by omega), h j (by omega), cnt0, if_pos (by omega)]
theorem laid_out (c : Nat → Int) (st l : List UInt8) (b m j : Nat) (hm : m ≤ 16) (hj : j < 16 * b + m ∨ 16 * (b + 1) ≤ j ∨ 16 * b + m ≤ j ∧ False) :
    laidF (outF c st l (16 * b)) (encF c (cnt st b)) (16 * b) m j = outF c st l (16 * (b + 1)) j := by
  unfold laidF outF ksB
  rcases hj with h | h | ⟨_, h⟩
  · by_cases h1 : 16 * b ≤ j
    · rw [if_pos ⟨h1, h⟩, if_neg (by omega), if_pos (by omega), show j / 16 = b by omega, show j - 16 * b = j % 16 by omega]
    · rw [if_neg (by omega), if_pos (by omega), if_pos (by omega)]
  · rw [if_neg (by omega), if_neg (by omega), if_neg (by omega)]
  · exact h.elim

set_option maxRecDepth 100000 in
set_option maxHeartbeats 4000000 in
theorem ctr_all (w : World) (B kB oB cB n cap : Nat) (hn : n ≤ 1048576) (hcap : n ≤ cap) (h1 : kB ≠ oB) (h2 : kB ≠ cB) (h3 : oB ≠ cB) (hBo : B ≤ oB) (hBc : B ≤ cB) (hBw : B ≤ w.heap.size) (c : Nat → Int) (st l : List UInt8) (hl : l.length = n) (hK0 : w.rowIs kB 162 240 (fun i => .int .u8 (c i))) (hC0 : w.rowIs cB 146 16 (fun j => .int .u8 (cnt0 st j))) (hO0 : CRow w oB 5 n (fun j => .int .u8 (outF c st l 0 j)))
    {c0 c1 c2 c3 c4 c5 c6 c7 i12 i13 i14 c15 c16 c17 c18 c19 c20 c21 c22 c23 c24 c25 c26 c27 c28 c29 c30 c31 c32 c33 i34 i35 i36 i37 i38 i39 i40 i41 i42 i43 i44 i45 i46 i47 i48 i49 i50 i51 i52 i53 i54 i55 i56 i57 i58 i59 i60 i61 i62 i63 i64 i65 i66 i67 i68 i69 i70 i71 i72 i73 i74 i75 i76 i77 i78 i79 c80 c81 : Value}
    (Q : Exit → Act → World → Prop) (hQ : ∀ (u11 u12 u13 u14 u34 u35 u36 u37 u38 u39 u40 u41 u42 u43 u44 u45 u46 u47 u48 u49 u50 u51 u52 u53 u54 u55 u56 u57 u58 u59 u60 u61 u62 u63 u64 u65 u66 u67 u68 u69 u70 u71 u72 u73 u74 u75 u76 u77 u78 u79 : Value) (w' : World), CRow w' oB 5 n (fun j => .int .u8 (outF c st l n j)) ∧ Below B w w' → Q .normal ⟨(c0 :: c1 :: c2 :: c3 :: c4 :: c5 :: c6 :: c7 :: .pointer (some ⟨kB, 0, none⟩) :: .slice (some ⟨oB, 0, none⟩) n cap :: .pointer (some ⟨cB, 0, none⟩) :: u11 :: u12 :: u13 :: u14 :: c15 :: c16 :: c17 :: c18 :: c19 :: c20 :: c21 :: c22 :: c23 :: c24 :: c25 :: c26 :: c27 :: c28 :: c29 :: c30 :: c31 :: c32 :: c33 :: u34 :: u35 :: u36 :: u37 :: u38 :: u39 :: u40 :: u41 :: u42 :: u43 :: u44 :: u45 :: u46 :: u47 :: u48 :: u49 :: u50 :: u51 :: u52 :: u53 :: u54 :: u55 :: u56 :: u57 :: u58 :: u59 :: u60 :: u61 :: u62 :: u63 :: u64 :: u65 :: u66 :: u67 :: u68 :: u69 :: u70 :: u71 :: u72 :: u73 :: u74 :: u75 :: u76 :: u77 :: u78 :: u79 :: c80 :: c81 :: []).toArray, []⟩ w') :
    (codeBlock 1 Tryz.f89).wp Tryz.prog Q ⟨(c0 :: c1 :: c2 :: c3 :: c4 :: c5 :: c6 :: c7 :: .pointer (some ⟨kB, 0, none⟩) :: .slice (some ⟨oB, 0, none⟩) n cap :: .pointer (some ⟨cB, 0, none⟩) :: .int .i64 0 :: i12 :: i13 :: i14 :: c15 :: c16 :: c17 :: c18 :: c19 :: c20 :: c21 :: c22 :: c23 :: c24 :: c25 :: c26 :: c27 :: c28 :: c29 :: c30 :: c31 :: c32 :: c33 :: i34 :: i35 :: i36 :: i37 :: i38 :: i39 :: i40 :: i41 :: i42 :: i43 :: i44 :: i45 :: i46 :: i47 :: i48 :: i49 :: i50 :: i51 :: i52 :: i53 :: i54 :: i55 :: i56 :: i57 :: i58 :: i59 :: i60 :: i61 :: i62 :: i63 :: i64 :: i65 :: i66 :: i67 :: i68 :: i69 :: i70 :: i71 :: i72 :: i73 :: i74 :: i75 :: i76 :: i77 :: i78 :: i79 :: c80 :: c81 :: []).toArray, []⟩ w := by
  conv => arg 2; whnf
  have HL : Hid (l.length = n) := hl
  clear hl
  go_wp2_with fail
  go_loopw [11] (fun i wr => ∃ b : Nat, 16 * b ≤ n + 15 ∧ i = .int .i64 ((16 * b : Nat) : Int) ∧ (∃ cc : Nat → Int, (∀ j, j < 12 → cc j = byteAt st j) ∧ wr.rowIs cB 146 16 (fun j => .int .u8 (cc j))) ∧ wr.rowIs kB 162 240 (fun i => .int .u8 (c i)) ∧ CRow wr oB 5 n (fun j => .int .u8 (outF c st l (16 * b) j)) ∧ Below B w wr) (fun i _ => n + 16 - (intOf i).toNat)
  case atStart => exact ⟨0, by omega, rfl, ⟨_, fun j hj => by simp [cnt0, hj], hC0⟩, hK0, hO0, Below.refl _ _⟩
  case round =>
    clear hC0 hK0 hO0
    obtain ⟨b, hb16, rfl, ⟨cc, hcc, hC⟩, hK, hO, hbw⟩ := hrel
    obtain ⟨p, hp⟩ : ∃ p, p = 16 * b := ⟨_, rfl⟩
    rw [← hp] at hb16 hO
    rw [← hp]
    have HP : Hid (p = 16 * b) := hp
    have hpb : p / 16 = b := by omega
    have HPB : Hid (p / 16 = b) := hpb
    clear hp hpb
    by_cases hpn : p < n
    · have hpd : decide ((p : Int) < (n : Int)) = true := by simp; omega
      go_upto_block 3 with (fail)
      refine ctr_count _ cB p (by omega) cc hC _ ?_
      intros
      rename_i w1 q1
      obtain ⟨hC1, g1⟩ := q1
      rw [HPB.out] at hC1
      have hC2 : w1.rowIs cB 146 16 (fun j => .int .u8 (cnt st b j)) := hC1.congr (fun j hj => by rw [cnt_of st cc b hcc j hj])
      have hK1 := rowIs_grown hK g1 (by simp; omega)
      have hO1 := hO.grown g1 (by simp; omega)
      have b1 := hbw.trans (below_of_grownBy g1 hBc (Nat.le_trans hBw hbw.size))
      clear hC hC1 hK hO hbw g1 hcc
      have hcb := rowIs_bk16 hC2
      have hi1 : (Tryz.prog.info? 146).map (·.size) = some (bk16 (cnt st b)).size := by rw [bk16_size]; exact cipher_info
      go_wp2_with ((with_reducible refine wpList_load_blk (o := ⟨some 54, .load _ _, _, _, _, _⟩) rfl 146 (.tmp 10) rfl cB rfl 146 _ _ hcb Tryz.underlying146 rfl hi1 ?_))
      refine (encipher_any w1 kB c (cnt st b) hK1).mono ?_
      rintro e w2 ⟨rfl, q2⟩
      clear hi1 hcb
      have hC3 := rowIs_later hC2 q2
      have hK3 := rowIs_later hK1 q2
      have hO3 := hO1.later q2
      have b2 := b1.trans (q2.mono (Nat.le_trans hBw b1.size))
      clear hC2 hK1 hO1 b1 q2
      have hi2 : (Tryz.prog.info? 146).map (·.size) = some (bk16 (encF c (cnt st b))).size := by rw [bk16_size]; exact cipher_info
      have hz := Blk.new w2 146 #[.int .u8 0, .int .u8 0, .int .u8 0, .int .u8 0, .int .u8 0, .int .u8 0, .int .u8 0, .int .u8 0, .int .u8 0, .int .u8 0, .int .u8 0, .int .u8 0, .int .u8 0, .int .u8 0, .int .u8 0, .int .u8 0]
      have hz3 : (#[.int .u8 0, .int .u8 0, .int .u8 0, .int .u8 0, .int .u8 0, .int .u8 0, .int .u8 0, .int .u8 0, .int .u8 0, .int .u8 0, .int .u8 0, .int .u8 0, .int .u8 0, .int .u8 0, .int .u8 0, .int .u8 0] : Array Value).size = (bk16 (encF c (cnt st b))).size := by rw [bk16_size]; rfl
      obtain ⟨m, hm⟩ : ∃ m, m = (min ((p : Int) + 16) (n : Int)).toNat - p := ⟨_, rfl⟩
      have hm16 : m ≤ 16 := by omega
      have hpm : p + m ≤ n := by omega
      have HM : Hid (m = (min ((p : Int) + 16) (n : Int)).toNat - p) := hm
      clear hm
      go_upto_block 5 with ((with_reducible refine wpList_store_row (op := ⟨none, .store _ _ _, _, _, _, _⟩) rfl 146 (.tmp 13) (.tmp 55) rfl w2.heap.size 146 _ _ rfl rfl hz hi2 hz3 (bk16_all _) ?_))
      rw [← HM.out]
      have hS4 : ((w2.alloc (.cells #[.int .u8 0, .int .u8 0, .int .u8 0, .int .u8 0, .int .u8 0, .int .u8 0, .int .u8 0, .int .u8 0, .int .u8 0, .int .u8 0, .int .u8 0, .int .u8 0, .int .u8 0, .int .u8 0, .int .u8 0, .int .u8 0] 146)).setRow w2.heap.size (bk16 (encF c (cnt st b)))).rowIs w2.heap.size 146 16 (fun j => .int .u8 (encF c (cnt st b) j)) := bk16_rowIs (hz.setRow _)
      have q4 : Below w2.heap.size w2 ((w2.alloc (.cells #[.int .u8 0, .int .u8 0, .int .u8 0, .int .u8 0, .int .u8 0, .int .u8 0, .int .u8 0, .int .u8 0, .int .u8 0, .int .u8 0, .int .u8 0, .int .u8 0, .int .u8 0, .int .u8 0, .int .u8 0, .int .u8 0] 146)).setRow w2.heap.size (bk16 (encF c (cnt st b)))) := below_setRow' ((Below.refl _ _).alloc (Nat.le_refl _) _) (Nat.le_refl _) _
      have hO4 := hO3.later q4
      have hC4 := rowIs_later hC3 q4
      have hK4 := rowIs_later hK3 q4
      have b4 := b2.trans (q4.mono (Nat.le_trans hBw b2.size))
      have hne4 : oB ≠ w2.heap.size := by have := hO3.lt; omega
      clear hO3 hC3 hK3 b2 q4 hz hi2 hz3
      refine ctr_lay _ oB w2.heap.size n cap p m hn hpm hm16 hne4 _ _ hS4 hO4 _ ?_
      intros
      rename_i w5 q5
      obtain ⟨hO5, g5⟩ := q5
      have hC5 := rowIs_grown hC4 g5 (by simp; omega)
      have hK5 := rowIs_grown hK4 g5 (by simp; omega)
      have b5 := b4.trans (below_of_grownBy g5 hBo (Nat.le_trans hBw b4.size))
      clear hO4 hC4 hK4 hS4 b4 g5
      have hmm := HM.out
      have hpp := HP.out
      have hnext : CRow w5 oB 5 n (fun j => .int .u8 (outF c st l (16 * (b + 1)) j)) := hO5.congr (fun j hj => congrArg (Value.int .u8) (by
        rw [hpp]
        exact laid_out c st l b m j hm16 (by omega)))
      have HN : Hid (p + 16 = 16 * (b + 1)) := by show p + 16 = 16 * (b + 1); omega
      have hb17 : 16 * (b + 1) ≤ n + 15 := by omega
      clear hO5 hmm hpp
      go_wp2
      go_roundw
      case rel => exact ⟨b + 1, hb17, by rw [← HN.out]; go_num, ⟨_, fun j hj => by rw [cnt, cntF, if_neg (by omega), cnt0, if_pos hj], hC5⟩, hK5, hnext, b5⟩
      case measure => simp [intOf]; omega
    · have hpd : decide ((p : Int) < (n : Int)) = false := by simp; omega
      have hfin : CRow wr oB 5 n (fun j => .int .u8 (outF c st l n j)) := hO.congr (fun j hj => congrArg (Value.int .u8) (by
        unfold outF; rw [if_pos (by omega), if_pos (by omega)]))
      clear hO hC
      go_wp2
      exact ⟨hfin, hbw⟩
end Go.Proofs.YtipehnojibdfeaaGreat
