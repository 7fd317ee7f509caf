/- prim's seal and open of the real kind. -/
import Derived.Test.YtipehnojibdfeaaGreatPrim1
namespace Go.Proofs.YtipehnojibdfeaaGreat
open Go Go.Proofs Go.RowKit

def tagF (F K : Nat → Int) (key ad nonce c : List UInt8) : List UInt8 := hmacF F K (secondF F K key) (putL [] ad ++ putL [] nonce ++ c)
def turnF (F K : Nat → Int) (key nonce text : List UInt8) : List UInt8 := ctrF (firstF F K key) ((hmacF F K (secondF F K key) ([110, 111, 110, 99, 101] ++ nonce)).take 12) text
def sealF (F K : Nat → Int) (key nonce ad text : List UInt8) : List UInt8 := turnF F K key nonce text ++ tagF F K key ad nonce (turnF F K key nonce text)
theorem turnF_length (F K : Nat → Int) (key nonce text : List UInt8) : (turnF F K key nonce text).length = text.length := ctrL_length _ _ _
theorem tagF_length (F K : Nat → Int) (key ad nonce c : List UInt8) : (tagF F K key ad nonce c).length = 32 := hmacF_length _ _ _ _
theorem sealF_length (F K : Nat → Int) (key nonce ad text : List UInt8) : (sealF F K key nonce ad text).length = text.length + 32 := by simp [sealF, turnF_length, tagF_length]
theorem turnF_twice (F K : Nat → Int) (key nonce text : List UInt8) : turnF F K key nonce (turnF F K key nonce text) = text := ctrL_twice _ _ _
theorem bs_append (a b : List UInt8) : bs a ++ bs b = bs (a ++ b) := by
  apply ByteArray.ext
  apply Array.ext'
  simp [bs]

set_option maxHeartbeats 2000000 in
theorem plainSeal_any (w : World) (key nonce ad text : ByteArray) (hk : key.size = 32) (h1 : nonce.size ≤ 1000000000) (h2 : ad.size ≤ 1000000000) (h3 : text.size ≤ 1048576) (F K : Nat → Int) (hT : Tabs w F K) :
    Calls Tryz.prog 64 #[.agg #[], .string key, .string nonce, .string ad, .string text] w fun e w' => e = .returned (.tuple #[.string (bs (sealF F K key.data.toList nonce.data.toList ad.data.toList text.data.toList)), .int .i64 0]) ∧ Below w.heap.size w w' := by
  have hkd : ((key.size : Int) != 32) = false := by rw [bne_eq_false_iff_eq]; omega
  have HK : Hid (key.size = 32) := hk
  clear hk
  go_enter Tryz.func64, Tryz.ntmps64
  go_wp2_with fail
  have b0 : Below w.heap.size w (w.alloc (.cells #[] 75)) := (Below.refl _ _).alloc (Nat.le_refl _) _
  have hT0 := hT.later b0
  refine (two_any (w.alloc (.cells #[] 75)) key (by have := HK.out; omega) F K hT0).mono ?_
  rintro e w1 ⟨rfl, c1⟩
  have b1 := b0.trans (c1.mono (by simp))
  have hT1 := hT.later b1
  clear hT0 b0 c1
  obtain ⟨k1, hk1⟩ : ∃ k1, k1 = bs (firstF F K key.data.toList) := ⟨_, rfl⟩
  obtain ⟨k2, hk2⟩ : ∃ k2, k2 = bs (secondF F K key.data.toList) := ⟨_, rfl⟩
  have hl1 : k1.size = 32 := by rw [hk1, bs_size, firstF_length]
  have hl2 : k2.size = 32 := by rw [hk2, bs_size, secondF_length]
  have hd1 : k1.data.toList = firstF F K key.data.toList := by rw [hk1, bs_list]
  have hd2 : k2.data.toList = secondF F K key.data.toList := by rw [hk2, bs_list]
  rw [← hk1, ← hk2]
  clear hk1 hk2
  have ht := turned_any w1 k1 k2 nonce text hl1 hl2 h1 h3 F K hT1
  rw [hd1, hd2] at ht
  have ht' : Calls Tryz.prog 74 #[.string k1, .string k2, .string nonce, .string text] w1 fun e w' => e = .returned (.tuple #[.string (bs (turnF F K key.data.toList nonce.data.toList text.data.toList)), .int .i64 0]) ∧ Below w1.heap.size w1 w' := ht
  have HD : Hid (k2.data.toList = secondF F K key.data.toList ∧ k2.size = 32) := ⟨hd2, hl2⟩
  clear ht hd1 hd2 hl1 hl2 hT1
  go_wp2_with fail
  refine ht'.mono ?_
  rintro e w2 ⟨rfl, c2⟩
  have b2 := b1.trans (c2.mono b1.size)
  have hT2 := hT.later b2
  clear ht' b1 c2
  obtain ⟨c, hc⟩ : ∃ c, c = bs (turnF F K key.data.toList nonce.data.toList text.data.toList) := ⟨_, rfl⟩
  have hcl : c.size = text.size := by rw [hc, bs_size, turnF_length]; rfl
  have hcd : c.data.toList = turnF F K key.data.toList nonce.data.toList text.data.toList := by rw [hc, bs_list]
  rw [← hc]
  have ht := tag_any w2 k2 ad nonce c HD.out.2 h2 h1 (by omega) F K hT2
  rw [HD.out.1, hcd] at ht
  have ht' : Calls Tryz.prog 73 #[.string k2, .string ad, .string nonce, .string c] w2 fun e w' => e = .returned (.string (bs (tagF F K key.data.toList ad.data.toList nonce.data.toList (turnF F K key.data.toList nonce.data.toList text.data.toList)))) ∧ Below w2.heap.size w2 w' := ht
  obtain ⟨tg, htg⟩ : ∃ tg, tg = bs (tagF F K key.data.toList ad.data.toList nonce.data.toList (turnF F K key.data.toList nonce.data.toList text.data.toList)) := ⟨_, rfl⟩
  rw [← htg] at ht'
  have htl : tg.size = 32 := by rw [htg, bs_size, tagF_length]
  have hadd := fun W => run_string_add_sum (P := Tryz.prog) W c tg (by omega)
  have HS : Hid (c ++ tg = bs (sealF F K key.data.toList nonce.data.toList ad.data.toList text.data.toList)) := by rw [hc, htg, bs_append]; rfl
  have hle : c.size ≤ 1048576 := by omega
  clear ht hc hcd htg HD hcl
  go_wp2_with fail
  refine ht'.mono ?_
  rintro e w3 ⟨rfl, c3⟩
  have b3 := b2.trans (c3.mono b2.size)
  clear ht' b2 c3
  go_wp2
  go_ret2
  refine ⟨?_, b3⟩
  rw [← HS.out]
  rfl
end Go.Proofs.YtipehnojibdfeaaGreat
