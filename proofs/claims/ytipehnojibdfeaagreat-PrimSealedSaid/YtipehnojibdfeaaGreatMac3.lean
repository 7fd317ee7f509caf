/- The contract of mac's Equal: are both one text? -/
import Derived.Test.YtipehnojibdfeaaGreatMac2
namespace Go.Proofs.YtipehnojibdfeaaGreat
open Go Go.Proofs Go.RowKit

theorem nat_or_zero (x y : Nat) : x ||| y = 0 ↔ x = 0 ∧ y = 0 := by
  constructor
  · intro h
    have h1 : x ≤ x ||| y := Nat.left_le_or
    have h2 : y ≤ x ||| y := Nat.right_le_or
    omega
  · rintro ⟨rfl, rfl⟩; rfl
theorem nat_xor_zero (x y : Nat) : x ^^^ y = 0 ↔ x = y := by
  constructor
  · intro h
    have : (x ^^^ y) ^^^ y = 0 ^^^ y := by rw [h]
    rwa [Nat.xor_assoc, Nat.xor_self, Nat.xor_zero, Nat.zero_xor] at this
  · rintro rfl; exact Nat.xor_self _
theorem u8_or (x y : Nat) (hx : x < 256) (hy : y < 256) : bits .or .u8 (x : Int) (y : Int) = ((x ||| y : Nat) : Int) := by
  have h := bits_nat .u8 8 (by decide) wraps_u8 x y hx hy
  exact h.2
theorem u8_xor (x y : Nat) (hx : x < 256) (hy : y < 256) : bits .xor .u8 (x : Int) (y : Int) = ((x ^^^ y : Nat) : Int) := by
  have hx' : x % 2 ^ 8 = x := Nat.mod_eq_of_lt hx
  have hy' : y % 2 ^ 8 = y := Nat.mod_eq_of_lt hy
  have hlt : x ^^^ y < 2 ^ 8 := Nat.xor_lt_two_pow hx hy
  simp only [bits, BitVec.ofInt_natCast, BitVec.toNat_xor, BitVec.toNat_ofNat, show IntKind.u8.bits = 8 from rfl, hx', hy']
  exact wraps_u8 _ (Int.natCast_nonneg _) (by exact_mod_cast hlt)
theorem u8_unlike (x p q : Nat) (hx : x < 256) (hp : p < 256) (hq : q < 256) : ∃ y : Nat, y < 256 ∧ bits .or .u8 (x : Int) (bits .xor .u8 (p : Int) (q : Int)) = (y : Int) ∧ (y = 0 ↔ x = 0 ∧ p = q) := by
  have hlt : p ^^^ q < 2 ^ 8 := Nat.xor_lt_two_pow hp hq
  refine ⟨x ||| (p ^^^ q), Nat.or_lt_two_pow (n := 8) hx hlt, ?_, ?_⟩
  · rw [u8_xor p q hp hq, u8_or x (p ^^^ q) hx hlt]
  · rw [nat_or_zero, nat_xor_zero]

set_option maxHeartbeats 2000000 in
theorem equal_any (w : World) (a b : ByteArray) (ha : a.size ≤ 9223372036854775807) (hb : b.size ≤ 9223372036854775807) :
    Calls Tryz.prog 70 #[.string a, .string b] w fun e w' => e = .returned (.bool (decide (a = b))) ∧ Below w.heap.size w w' := by
  by_cases hl : a.size = b.size
  · have hn : ((a.size : Int) != (b.size : Int)) = false := by rw [bne_eq_false_iff_eq]; omega
    have hle : b.size ≤ a.size := by omega
    have hle' : a.size ≤ b.size := by omega
    have HL : Hid (a.size = b.size) := hl
    clear hl
    go_enter Tryz.func70, Tryz.ntmps70
    go_wp2_with fail
    go_loopw [5, 14] (fun x i wr => ∃ (k y : Nat), k ≤ a.size ∧ i = .int .i64 k ∧ x = .int .u8 y ∧ y < 256 ∧ (y = 0 ↔ a.data.toList.take k = b.data.toList.take k) ∧ Below w.heap.size w wr) (fun _ i _ => a.size - (intOf i).toNat)
    case atStart => exact ⟨0, 0, by omega, rfl, rfl, by omega, by simp, Below.refl _ _⟩
    case round =>
      obtain ⟨k, y, hk, rfl, rfl, hy, hyk, hbw⟩ := hrel
      have HYK : Hid (y = 0 ↔ a.data.toList.take k = b.data.toList.take k) := hyk
      clear hyk
      by_cases hkn : k < a.size
      · have hkb : k < b.size := by omega
        obtain ⟨z, hz, hz2, hz3⟩ := u8_unlike y (a[k]).toNat (b[k]).toNat hy (a[k]).toNat_lt (b[k]).toNat_lt
        have HZ3 : Hid (z = 0 ↔ y = 0 ∧ (a[k]).toNat = (b[k]).toNat) := hz3
        clear hz3
        go_wp2_with fail
        go_quiet (fail)
        go_wp2
        go_roundw
        case rel =>
          refine ⟨k + 1, z, by omega, by go_num, by rw [← hz2], hz, ?_, below_drewN' hbw _⟩
          have e1 : a.data.toList.take (k + 1) = a.data.toList.take k ++ [a[k]] := by rw [List.take_succ_eq_append_getElem (by simpa using hkn)]; rfl
          have e2 : b.data.toList.take (k + 1) = b.data.toList.take k ++ [b[k]] := by rw [List.take_succ_eq_append_getElem (by simpa using hkb)]; rfl
          rw [HZ3.out, HYK.out, e1, e2]
          constructor
          · rintro ⟨h1, h2⟩; rw [h1, UInt8.toNat_inj.1 h2]
          · intro h
            have := List.append_inj' h rfl
            exact ⟨this.1, by have := this.2; simp at this; simp [this]⟩
        case measure => simp [intOf]; omega
      · obtain rfl : k = a.size := by omega
        go_wp2
        go_ret
        refine ⟨?_, hbw⟩
        show Ending.returned (.bool ((y : Int) == 0)) = _
        have e1 : a.data.toList.take a.size = a.data.toList := List.take_of_length_le (Nat.le_refl _)
        have e2 : b.data.toList.take a.size = b.data.toList := List.take_of_length_le (by rw [HL.out]; exact Nat.le_refl _)
        have h := HYK.out
        rw [e1, e2] at h
        have hi : ((y : Int) == 0) = decide (a = b) := by
          rw [Bool.eq_iff_iff, beq_iff_eq, decide_eq_true_eq]
          constructor
          · intro h0
            have h1 := h.1 (by omega)
            exact ByteArray.ext (Array.toList_inj.1 h1)
          · intro h0
            have := h.2 (by rw [h0])
            omega
        rw [hi]
  · have hn : ((a.size : Int) != (b.size : Int)) = true := by rw [bne_iff_ne]; omega
    have hne : decide (a = b) = false := by simp; rintro rfl; exact hl rfl
    rw [hne]
    go_enter Tryz.func70, Tryz.ntmps70
    go_wp2_with fail
    go_ret
    exact ⟨rfl, Below.refl _ _⟩
end Go.Proofs.YtipehnojibdfeaaGreat
