/- The contract of aes's Ctr; it is its own inverse. -/
import Derived.Test.YtipehnojibdfeaaGreatAes8
import Derived.Test.YtipehnojibdfeaaGreatMac3
namespace Go.Proofs.YtipehnojibdfeaaGreat
open Go Go.Proofs Go.RowKit

theorem ksB_in (c : Nat → Int) (st : List UInt8) (j : Nat) : 0 ≤ ksB c st j ∧ ksB c st j < 256 := roundsE_in _ _ _ _ (by omega)
def ctrL (c : Nat → Int) (st l : List UInt8) : List UInt8 := (List.range l.length).map fun j => (xor8 (byteAt l j) (ksB c st j)).toNat.toUInt8
theorem ctrL_length (c : Nat → Int) (st l : List UInt8) : (ctrL c st l).length = l.length := by simp [ctrL]
theorem ctrL_at (c : Nat → Int) (st l : List UInt8) (j : Nat) (hj : j < l.length) : byteAt (ctrL c st l) j = xor8 (byteAt l j) (ksB c st j) := by
  have h := xor8_in (byteAt l j) (ksB c st j)
  rw [byteAt_get _ _ (by rw [ctrL_length]; exact hj)]
  simp [ctrL]
  omega
theorem xor8_twice (a k : Int) (ha : 0 ≤ a ∧ a < 256) (hk : 0 ≤ k ∧ k < 256) : xor8 (xor8 a k) k = a := by
  obtain ⟨x, rfl⟩ : ∃ x : Nat, a = x := ⟨a.toNat, by omega⟩
  obtain ⟨y, rfl⟩ : ∃ y : Nat, k = y := ⟨k.toNat, by omega⟩
  have hx : x < 256 := by omega
  have hy : y < 256 := by omega
  have hl : x ^^^ y < 2 ^ 8 := Nat.xor_lt_two_pow (by omega) (by omega)
  unfold xor8
  rw [u8_xor x y hx hy, u8_xor _ y hl hy, Nat.xor_assoc, Nat.xor_self, Nat.xor_zero]
theorem byteAt_ext (a b : List UInt8) (hl : a.length = b.length) (h : ∀ j, j < a.length → byteAt a j = byteAt b j) : a = b := by
  apply List.ext_getElem hl
  intro i h1 h2
  have := h i h1
  rw [byteAt_get a i h1, byteAt_get b i h2] at this
  exact UInt8.toNat_inj.1 (by exact_mod_cast this)
theorem ctrL_twice (c : Nat → Int) (st l : List UInt8) : ctrL c st (ctrL c st l) = l := by
  apply byteAt_ext _ _ (by rw [ctrL_length, ctrL_length])
  intro j hj
  rw [ctrL_length, ctrL_length] at hj
  rw [ctrL_at _ _ _ _ (by rw [ctrL_length]; exact hj), ctrL_at _ _ _ _ hj]
  exact xor8_twice _ _ (byteAt_in _ _) (ksB_in _ _ _)
def ctrF (key st l : List UInt8) : List UInt8 := ctrL (keysF key) st l

set_option maxRecDepth 100000 in
set_option maxHeartbeats 2000000 in
theorem ctr_any (w : World) (key start text : ByteArray) (hk : key.size = 32) (hs : start.size = 12) (hn : text.size ≤ 1048576) :
    Calls Tryz.prog 89 #[.string key, .string start, .string text] w fun e w' => e = .returned (.tuple #[.string ⟨(ctrF key.data.toList start.data.toList text.data.toList).toArray⟩, .int .i64 0]) ∧ Below w.heap.size w w' := by
  have hkd : ((key.size : Int) != 32) = false := by rw [bne_eq_false_iff_eq]; omega
  have hsd : ((start.size : Int) != 12) = false := by rw [bne_eq_false_iff_eq]; omega
  have hnd : decide (1048576 < text.size) = false := by simp; omega
  have hnd2 : decide (1048576 < (text.size : Int)) = false := by simp; omega
  have HK : Hid (key.size = 32) := hk
  have HS : Hid (start.size = 12) := hs
  have kb := fun W => Lib.run_convert_string_bytes (P := Tryz.prog) W 9 30 5 text (u := .string) Tryz.underlying9 Tryz.underlying30 Tryz.underlying5
  clear hk hs
  go_enter Tryz.func89, Tryz.ntmps89
  go_wp2_with fail
  refine (keys_any w key HK.out).mono ?_
  rintro e w1 ⟨kB, rfl, hkB, hK, b1⟩
  have hO2 := CRow.bytes w1 5 text
  have q2 : Below w1.heap.size w1 (Lib.bytesWorld w1 5 text) := ⟨rfl, rfl, rfl, by rw [Lib.bytesWorld_size]; omega, fun i hi => Lib.bytesWorld_at_old _ _ _ i hi⟩
  have hK2 := rowIs_later hK q2
  have b2 := b1.trans (q2.mono b1.size)
  have hkl := hK.lt
  have hcap : text.size ≤ grownCap w1 text.size 0 5 := grownCap_ge _ _ _ _
  obtain ⟨cap, hcp⟩ : ∃ cap, cap = grownCap w1 text.size 0 5 := ⟨_, rfl⟩
  have kb1 := kb w1
  rw [← hcp] at kb1 hcap
  clear hcp kb hK b1 
  have hsz := Lib.bytesWorld_size w1 5 text
  obtain ⟨w2, hw2⟩ : ∃ w2, w2 = Lib.bytesWorld w1 5 text := ⟨_, rfl⟩
  rw [← hw2] at hO2 hK2 b2 kb1 hsz
  clear hw2 q2
  obtain ⟨oB, hoB⟩ : ∃ oB, oB = w1.heap.size := ⟨_, rfl⟩
  rw [← hoB] at hO2 kb1 hkl hsz
  have hob : w.heap.size ≤ oB := by have := b2.size; omega
  have hoc : oB < w2.heap.size := by omega
  clear hoB hsz
  have hcpy : (Builtin.copy_ #[30, 9] 3 #[.slice (some ⟨w2.heap.size, 0, none⟩) 16 16, .string start]).run Tryz.prog (w2.alloc (.cells #[.int .u8 0, .int .u8 0, .int .u8 0, .int .u8 0, .int .u8 0, .int .u8 0, .int .u8 0, .int .u8 0, .int .u8 0, .int .u8 0, .int .u8 0, .int .u8 0, .int .u8 0, .int .u8 0, .int .u8 0, .int .u8 0] 146)) =
      .ok (goInt start.size) ((w2.alloc (.cells #[.int .u8 0, .int .u8 0, .int .u8 0, .int .u8 0, .int .u8 0, .int .u8 0, .int .u8 0, .int .u8 0, .int .u8 0, .int .u8 0, .int .u8 0, .int .u8 0, .int .u8 0, .int .u8 0, .int .u8 0, .int .u8 0] 146)).setRow w2.heap.size (Lib.byteCells (start.data.toList ++ List.replicate (16 - start.size) 0)).toArray) := by
    have hz : (#[.int .u8 0, .int .u8 0, .int .u8 0, .int .u8 0, .int .u8 0, .int .u8 0, .int .u8 0, .int .u8 0, .int .u8 0, .int .u8 0, .int .u8 0, .int .u8 0, .int .u8 0, .int .u8 0, .int .u8 0, .int .u8 0] : Array Value) = (List.replicate 16 (.int .u8 0)).toArray := rfl
    have h := Lib.run_copy_row_string (P := Tryz.prog) (w2.alloc (.cells #[.int .u8 0, .int .u8 0, .int .u8 0, .int .u8 0, .int .u8 0, .int .u8 0, .int .u8 0, .int .u8 0, .int .u8 0, .int .u8 0, .int .u8 0, .int .u8 0, .int .u8 0, .int .u8 0, .int .u8 0, .int .u8 0] 146)) 30 9 3 5 w2.heap.size 0 16 16 start #[.int .u8 0, .int .u8 0, .int .u8 0, .int .u8 0, .int .u8 0, .int .u8 0, .int .u8 0, .int .u8 0, .int .u8 0, .int .u8 0, .int .u8 0, .int .u8 0, .int .u8 0, .int .u8 0, .int .u8 0, .int .u8 0] 146 Tryz.underlying30 byteInfoSize (heap_alloc_new w2 _) (by have := HS.out; omega) (by have := HS.out; rw [this]; simp)
    rw [h, hz, List.toList_toArray]
    have e : start.size = start.data.toList.length := rfl
    rw [e, copied 16 start.data.toList]
  have hC3 : ((w2.alloc (.cells #[.int .u8 0, .int .u8 0, .int .u8 0, .int .u8 0, .int .u8 0, .int .u8 0, .int .u8 0, .int .u8 0, .int .u8 0, .int .u8 0, .int .u8 0, .int .u8 0, .int .u8 0, .int .u8 0, .int .u8 0, .int .u8 0] 146)).setRow w2.heap.size (Lib.byteCells (start.data.toList ++ List.replicate (16 - start.size) 0)).toArray).rowIs w2.heap.size 146 16 (fun j => .int .u8 (cnt0 start.data.toList j)) := by
    have h := rowIs_bytes ((Blk.new w2 146 #[.int .u8 0, .int .u8 0, .int .u8 0, .int .u8 0, .int .u8 0, .int .u8 0, .int .u8 0, .int .u8 0, .int .u8 0, .int .u8 0, .int .u8 0, .int .u8 0, .int .u8 0, .int .u8 0, .int .u8 0, .int .u8 0]).setRow (Lib.byteCells (start.data.toList ++ List.replicate (16 - start.size) 0)).toArray)
    have e : start.data.toList.length = 12 := HS.out
    have e2 : (start.data.toList ++ List.replicate (16 - start.size) 0).length = 16 := by rw [List.length_append, e, HS.out]; simp
    rw [e2] at h
    exact h.congr (fun j hj => congrArg (Value.int .u8) (by
      unfold cnt0 byteAt
      by_cases h12 : j < 12
      · rw [if_pos h12]; simp [List.getD_eq_getElem?_getD, List.getElem?_append, e, h12]
      · rw [if_neg h12]; simp [List.getD_eq_getElem?_getD, List.getElem?_append, e, h12, List.getElem?_replicate]; split <;> simp))
  have q3 : Below w2.heap.size w2 ((w2.alloc (.cells #[.int .u8 0, .int .u8 0, .int .u8 0, .int .u8 0, .int .u8 0, .int .u8 0, .int .u8 0, .int .u8 0, .int .u8 0, .int .u8 0, .int .u8 0, .int .u8 0, .int .u8 0, .int .u8 0, .int .u8 0, .int .u8 0] 146)).setRow w2.heap.size (Lib.byteCells (start.data.toList ++ List.replicate (16 - start.size) 0)).toArray) := below_setRow' ((Below.refl _ _).alloc (Nat.le_refl _) _) (Nat.le_refl _) _
  have hO3 := hO2.later q3
  have hK3 := rowIs_later hK2 q3
  have b3 := b2.trans (q3.mono b2.size)
  clear hO2 hK2 q3
  obtain ⟨w3, hw3⟩ : ∃ w3, w3 = (w2.alloc (.cells #[.int .u8 0, .int .u8 0, .int .u8 0, .int .u8 0, .int .u8 0, .int .u8 0, .int .u8 0, .int .u8 0, .int .u8 0, .int .u8 0, .int .u8 0, .int .u8 0, .int .u8 0, .int .u8 0, .int .u8 0, .int .u8 0] 146)).setRow w2.heap.size (Lib.byteCells (start.data.toList ++ List.replicate (16 - start.size) 0)).toArray := ⟨_, rfl⟩
  rw [← hw3] at hcpy hC3 hO3 hK3 b3
  clear hw3
  have hcb : w.heap.size ≤ w2.heap.size := b2.size
  go_upto_block 1 with (fail)
  refine ctr_all _ w.heap.size kB oB w2.heap.size text.size cap hn hcap (by omega) (by omega) (by omega) hob hcb b3.size (keysF key.data.toList) start.data.toList text.data.toList rfl hK3 hC3 (hO3.congr (fun j hj => congrArg (Value.int .u8) (by unfold outF; rw [if_neg (by omega)]))) _ ?_
  intros
  rename_i w4 h4
  obtain ⟨hO4, b4⟩ := h4
  have hsz4 : (ctrF key.data.toList start.data.toList text.data.toList).length = text.size := ctrL_length _ _ _
  have hc : ∀ j (hj : j < (ctrF key.data.toList start.data.toList text.data.toList).length), w4.cell? ((⟨oB, 0, none⟩ : Addr).add j) = some (.int .u8 ((ctrF key.data.toList start.data.toList text.data.toList)[j].toNat : Int)) := by
    intro j hj
    rw [addr_add, Nat.zero_add, hO4.cell (by rw [← hsz4]; exact hj), ← byteAt_get _ _ hj]
    have hj' : j < text.data.toList.length := by rw [hsz4] at hj; exact hj
    simp only [ctrF, ctrL_at _ _ _ _ hj', outF]
    rw [if_pos (by rw [hsz4] at hj; exact hj)]
  have hconv := run_convert_bytes_back (P := Tryz.prog) w4 30 9 5 ⟨oB, 0, none⟩ cap (ctrF key.data.toList start.data.toList text.data.toList) Tryz.underlying30 Tryz.underlying5 Tryz.underlying9 hc
  rw [hsz4] at hconv
  have b5 := b3.trans b4
  clear hc hO4 b4 b3 b2 hsz4
  go_wp2
  go_ret2
  exact ⟨rfl, b5⟩
end Go.Proofs.YtipehnojibdfeaaGreat
