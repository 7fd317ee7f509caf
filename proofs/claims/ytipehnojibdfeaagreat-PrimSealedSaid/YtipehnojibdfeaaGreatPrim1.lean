/- prim's helpers of the real kind: two, tag, turned. -/
import Derived.Test.YtipehnojibdfeaaGreatMac3
import Derived.Test.YtipehnojibdfeaaGreatAes9
import Derived.Test.YtipehnojibdfeaaGreatWire2
namespace Go.Proofs.YtipehnojibdfeaaGreat
open Go Go.Proofs Go.RowKit

def bs (l : List UInt8) : ByteArray := ⟨l.toArray⟩
theorem bs_size (l : List UInt8) : (bs l).size = l.length := by show l.toArray.size = _; simp
theorem bs_list (l : List UInt8) : (bs l).data.toList = l := rfl
theorem bs_of (s : ByteArray) : bs s.data.toList = s := rfl
def twoF (F K : Nat → Int) (key : List UInt8) : List UInt8 := expandF F K (hmacF F K [] key) [115, 101, 97, 108] 64
def firstF (F K : Nat → Int) (key : List UInt8) : List UInt8 := (twoF F K key).take 32
def secondF (F K : Nat → Int) (key : List UInt8) : List UInt8 := (twoF F K key).drop 32
theorem twoF_length (F K : Nat → Int) (key : List UInt8) : (twoF F K key).length = 64 := expandF_length _ _ _ _ _
theorem firstF_length (F K : Nat → Int) (key : List UInt8) : (firstF F K key).length = 32 := by simp [firstF, twoF_length]
theorem secondF_length (F K : Nat → Int) (key : List UInt8) : (secondF F K key).length = 32 := by simp [secondF, twoF_length]
theorem bs_take (l : List UInt8) (n : Nat) : (bs l).extract 0 n = bs (l.take n) := extract_take l n
theorem bs_drop (l : List UInt8) (n : Nat) (m : Nat) (hm : m = l.length) : (bs l).extract n m = bs (l.drop n) := by
  subst hm
  apply ByteArray.ext
  apply Array.ext'
  simp [bs]
  exact List.take_of_length_le (by simp)

set_option maxHeartbeats 2000000 in
theorem two_any (w : World) (key : ByteArray) (hk : key.size ≤ 100000000000000) (F K : Nat → Int) (hT : Tabs w F K) :
    Calls Tryz.prog 72 #[.string key] w fun e w' => e = .returned (.tuple #[.string (bs (firstF F K key.data.toList)), .string (bs (secondF F K key.data.toList))]) ∧ Below w.heap.size w w' := by
  have h1 := extract_any w ⟨#[]⟩ key (by show (0 : Nat) ≤ _; omega) hk F K hT
  obtain ⟨t, ht⟩ : ∃ t : ByteArray, t = ⟨(hmacF F K [] key.data.toList).toArray⟩ := ⟨_, rfl⟩
  have h1' : Calls Tryz.prog 86 #[.string ⟨#[]⟩, .string key] w fun e w' => e = .returned (.string t) ∧ Below w.heap.size w w' := by rw [ht]; exact h1
  have htl : t.size = 32 := by rw [ht]; show (hmacF F K [] key.data.toList).toArray.size = 32; simp [hmacF_length]
  have htd : t.data.toList = hmacF F K [] key.data.toList := by rw [ht]
  have HTD : Hid (t.data.toList = hmacF F K [] key.data.toList) := htd
  have HTL : Hid (t.size = 32) := htl
  clear h1 ht htl htd
  go_enter Tryz.func72, Tryz.ntmps72
  go_wp2_with fail
  refine h1'.mono ?_
  rintro e w1 ⟨rfl, b1⟩
  go_wp2_with fail
  have h2 := expand_any w1 t ⟨#[115, 101, 97, 108]⟩ 64 (by have := HTL.out; omega) (by show (4 : Nat) ≤ _; omega) (by omega) F K (hT.later b1)
  have h2' : Calls Tryz.prog 85 #[.string t, .string ⟨#[115, 101, 97, 108]⟩, .int .i64 64] w1 fun e w' => e = .returned (.tuple #[.string (bs (twoF F K key.data.toList)), .int .i64 0]) ∧ Below w1.heap.size w1 w' := by
    rw [HTD.out] at h2
    exact h2
  clear h2
  refine h2'.mono ?_
  rintro e w2 ⟨rfl, b2⟩
  have b3 := b1.trans (b2.mono b1.size)
  clear h1' h2' b1 b2 HTD HTL
  have hl : (bs (twoF F K key.data.toList)).size = 64 := by rw [bs_size, twoF_length]
  obtain ⟨u, hu⟩ : ∃ u : ByteArray, u = bs (twoF F K key.data.toList) := ⟨_, rfl⟩
  rw [← hu] at hl ⊢
  have HU : Hid (u = bs (twoF F K key.data.toList)) := hu
  clear hu
  go_wp2_with fail
  go_quiet (fail)
  go_wp2_with fail
  go_ret2
  refine ⟨?_, ⟨b3.os, b3.tape, b3.output, b3.size, b3.block⟩⟩
  show Ending.returned (.tuple #[.string (u.extract 0 32), .string (u.extract 32 64)]) = _
  rw [HU.out, bs_take, bs_drop _ _ _ (twoF_length _ _ _).symm, firstF, secondF]

set_option maxHeartbeats 2000000 in
theorem tag_any (w : World) (second ad nonce c : ByteArray) (hs : second.size = 32) (h1 : ad.size ≤ 1000000000) (h2 : nonce.size ≤ 1000000000) (h3 : c.size ≤ 1000000000) (F K : Nat → Int) (hT : Tabs w F K) :
    Calls Tryz.prog 73 #[.string second, .string ad, .string nonce, .string c] w fun e w' => e = .returned (.string (bs (hmacF F K second.data.toList (putL [] ad.data.toList ++ putL [] nonce.data.toList ++ c.data.toList)))) ∧ Below w.heap.size w w' := by
  go_enter Tryz.func73, Tryz.ntmps73
  go_wp2_with fail
  refine (putText_any w ⟨#[]⟩ ad (by show (0 : Nat) ≤ _; omega) (by omega)).mono ?_
  rintro e w1 ⟨rfl, b1⟩
  go_wp2_with fail
  refine (putText_any w1 ⟨#[]⟩ nonce (by show (0 : Nat) ≤ _; omega) (by omega)).mono ?_
  rintro e w2 ⟨rfl, b2⟩
  have b3 := b1.trans (b2.mono b1.size)
  have hT3 := hT.later b3
  clear b1 b2 hT
  go_wp2_with fail
  have hcat : catS [bs (putL [] ad.data.toList), bs (putL [] nonce.data.toList), c] = putL [] ad.data.toList ++ putL [] nonce.data.toList ++ c.data.toList := by simp [catS, bs]
  have hl1 : ad.data.toList.length = ad.size := rfl
  have hl2 : nonce.data.toList.length = nonce.size := rfl
  have hl3 : c.data.toList.length = c.size := rfl
  have hm := hmac_any (w2.alloc (.cells #[.string (bs (putL [] ad.data.toList)), .string (bs (putL [] nonce.data.toList)), .string c] 9)) second [bs (putL [] ad.data.toList), bs (putL [] nonce.data.toList), c] (some ⟨w2.heap.size, 0, none⟩) 3 3 (by omega) (reads_three w2 _ _ _ _) (by omega) (by rw [hcat]; simp [putL_length]; omega) (by omega) F K (hT3.later ((Below.refl _ _).alloc (Nat.le_refl _) _))
  rw [hcat] at hm
  refine hm.mono ?_
  rintro e w4 ⟨rfl, b4⟩
  have b5 : Below w.heap.size w w4 := (b3.alloc b3.size _).trans (b4.mono (by have := b3.size; simp; omega))
  clear hm hcat b3 b4 hT3
  go_wp2
  go_ret
  exact ⟨congrArg (fun l => Ending.returned (.string (bs (hmacF F K second.data.toList l)))) (List.append_assoc _ _ _).symm, b5⟩

set_option maxHeartbeats 2000000 in
theorem turned_any (w : World) (first second nonce text : ByteArray) (hf : first.size = 32) (hs : second.size = 32) (h1 : nonce.size ≤ 1000000000) (h2 : text.size ≤ 1048576) (F K : Nat → Int) (hT : Tabs w F K) :
    Calls Tryz.prog 74 #[.string first, .string second, .string nonce, .string text] w fun e w' => e = .returned (.tuple #[.string (bs (ctrF first.data.toList ((hmacF F K second.data.toList ([110, 111, 110, 99, 101] ++ nonce.data.toList)).take 12) text.data.toList)), .int .i64 0]) ∧ Below w.heap.size w w' := by
  have hcat : catS [⟨#[110, 111, 110, 99, 101]⟩, nonce] = [110, 111, 110, 99, 101] ++ nonce.data.toList := by simp [catS]
  have hl2 : nonce.data.toList.length = nonce.size := rfl
  have hm := hmac_any (w.alloc (.cells #[.string ⟨#[110, 111, 110, 99, 101]⟩, .string nonce] 9)) second [⟨#[110, 111, 110, 99, 101]⟩, nonce] (some ⟨w.heap.size, 0, none⟩) 2 2 (by omega) (reads_two w _ _ _) (by omega) (by rw [hcat]; simp; omega) (by omega) F K (hT.later ((Below.refl _ _).alloc (Nat.le_refl _) _))
  rw [hcat] at hm
  obtain ⟨t, ht⟩ : ∃ t : ByteArray, t = ⟨(hmacF F K second.data.toList ([110, 111, 110, 99, 101] ++ nonce.data.toList)).toArray⟩ := ⟨_, rfl⟩
  rw [← ht] at hm
  have htl : t.size = 32 := by rw [ht]; show (hmacF F K second.data.toList ([110, 111, 110, 99, 101] ++ nonce.data.toList)).toArray.size = 32; simp [hmacF_length]
  have HM : Hid (Calls Tryz.prog 87 #[.string second, .slice (some ⟨w.heap.size, 0, none⟩) 2 2] (w.alloc (.cells #[.string ⟨#[110, 111, 110, 99, 101]⟩, .string nonce] 9)) fun e w' => e = .returned (.string t) ∧ Below (w.alloc (.cells #[.string ⟨#[110, 111, 110, 99, 101]⟩, .string nonce] 9)).heap.size (w.alloc (.cells #[.string ⟨#[110, 111, 110, 99, 101]⟩, .string nonce] 9)) w') := hm
  have HF : Hid (first.size = 32) := hf
  have HT : Hid (t = ⟨(hmacF F K second.data.toList ([110, 111, 110, 99, 101] ++ nonce.data.toList)).toArray⟩) := ht
  clear hm hcat hl2 ht hT hf hs h1
  go_enter Tryz.func74, Tryz.ntmps74
  go_wp2_with fail
  refine HM.out.mono ?_
  rintro e w1 ⟨rfl, b1⟩
  have b2 : Below w.heap.size w w1 := ((Below.refl _ _).alloc (Nat.le_refl _) _).trans (b1.mono (by simp))
  clear HM b1
  go_wp2_with fail
  have hts : (t.extract 0 12).size = 12 := by rw [ByteArray.size_extract]; omega
  refine (ctr_any w1 first (t.extract 0 12) text HF.out hts h2).mono ?_
  rintro e w2 ⟨rfl, b3⟩
  have b4 := b2.trans (b3.mono b2.size)
  have e1 : (t.extract 0 12).data.toList = (hmacF F K second.data.toList ([110, 111, 110, 99, 101] ++ nonce.data.toList)).take 12 := by rw [HT.out, extract_take]
  rw [e1]
  clear hts htl HT HF b2 b3 e1
  go_wp2
  go_ret2
  exact ⟨rfl, b4⟩
end Go.Proofs.YtipehnojibdfeaaGreat
