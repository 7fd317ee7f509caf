/- prim's open of the real kind. -/
import Derived.Test.YtipehnojibdfeaaGreatPrim2
namespace Go.Proofs.YtipehnojibdfeaaGreat
open Go Go.Proofs Go.RowKit

/-- too short, or too long -/
theorem plainOpen_bad (w : World) (key nonce ad sealed : ByteArray) (hk : key.size = 32) (hs : sealed.size < 32 ∨ 16416 < sealed.size) (hs2 : sealed.size ≤ 1000000000) :
    Calls Tryz.prog 62 #[.agg #[], .string key, .string nonce, .string ad, .string sealed] w fun e w' => e = .returned (.tuple #[.string ⟨#[]⟩, .int .i64 10]) ∧ Below w.heap.size w w' := by
  have hkd : ((key.size : Int) != 32) = false := by rw [bne_eq_false_iff_eq]; omega
  clear hk
  have b0 : Below w.heap.size w (w.alloc (.cells #[] 75)) := (Below.refl _ _).alloc (Nat.le_refl _) _
  by_cases h : sealed.size < 32
  · have hd1 : decide ((sealed.size : Int) - 32 < 0) = true := by simp; omega
    go_enter Tryz.func62, Tryz.ntmps62
    go_wp2_with fail
    go_ret2
    exact ⟨rfl, b0⟩
  · have hd1 : decide ((sealed.size : Int) - 32 < 0) = false := by simp; omega
    have hd2 : decide (16384 < (sealed.size : Int) - 32) = true := by simp; omega
    go_enter Tryz.func62, Tryz.ntmps62
    go_wp2_with fail
    go_ret2
    exact ⟨rfl, b0⟩

def OpenPost (F K : Nat → Int) (key nonce ad c t : List UInt8) : Value :=
  if tagF F K key ad nonce c = t then .tuple #[.string (bs (turnF F K key nonce c)), .int .i64 0] else .tuple #[.string ⟨#[]⟩, .int .i64 10]

set_option maxHeartbeats 2000000 in
theorem plainOpen_any (w : World) (key nonce ad sealed : ByteArray) (n : Nat) (hk : key.size = 32) (h1 : nonce.size ≤ 1000000000) (h2 : ad.size ≤ 1000000000) (hs : sealed.size = n + 32) (hn : n ≤ 16384) (F K : Nat → Int) (hT : Tabs w F K) :
    Calls Tryz.prog 62 #[.agg #[], .string key, .string nonce, .string ad, .string sealed] w fun e w' => e = .returned (OpenPost F K key.data.toList nonce.data.toList ad.data.toList (sealed.data.toList.take n) (sealed.data.toList.drop n)) ∧ Below w.heap.size w w' := by
  have hkd : ((key.size : Int) != 32) = false := by rw [bne_eq_false_iff_eq]; omega
  have HK : Hid (key.size = 32) := hk
  have hsub : (sealed.size : Int) - 32 = (n : Int) := by omega
  have hd1 : decide ((n : Int) < 0) = false := by simp
  have hd2 : decide (16384 < (n : Int)) = false := by simp; omega
  have HSS : Hid (sealed.size = n + 32) := hs
  have hsn : n ≤ sealed.size := by omega
  clear hk hs
  go_enter Tryz.func62, Tryz.ntmps62
  go_wp2_with fail
  have b0 : Below w.heap.size w (w.alloc (.cells #[] 75)) := (Below.refl _ _).alloc (Nat.le_refl _) _
  have hT0 := hT.later b0
  refine (two_any (w.alloc (.cells #[] 75)) key (by have := HK.out; omega) F K hT0).mono ?_
  rintro e w1 ⟨rfl, c1⟩
  have b1 := b0.trans (c1.mono (by simp))
  have hT1 := hT.later b1
  clear hT0 b0 c1
  obtain ⟨k1, hk1⟩ : ∃ k1, k1 = bs (firstF F K key.data.toList) := ⟨_, rfl⟩
  obtain ⟨k2, hk2⟩ : ∃ k2, k2 = bs (secondF F K key.data.toList) := ⟨_, rfl⟩
  have hl1 : k1.size = 32 := by rw [hk1, bs_size, firstF_length]
  have hl2 : k2.size = 32 := by rw [hk2, bs_size, secondF_length]
  have hd1' : k1.data.toList = firstF F K key.data.toList := by rw [hk1, bs_list]
  have hd2' : k2.data.toList = secondF F K key.data.toList := by rw [hk2, bs_list]
  rw [← hk1, ← hk2]
  clear hk1 hk2
  obtain ⟨c, hc⟩ : ∃ c, c = sealed.extract 0 n := ⟨_, rfl⟩
  obtain ⟨t, ht⟩ : ∃ t, t = sealed.extract n sealed.size := ⟨_, rfl⟩
  have hcd : c.data.toList = sealed.data.toList.take n := by rw [hc]; simp
  have htd : t.data.toList = sealed.data.toList.drop n := by rw [ht]; simp; exact List.take_of_length_le (by simp)
  have hcl : c.size = n := by rw [hc, ByteArray.size_extract]; omega
  have htag : ∀ x : Later w1, Calls Tryz.prog 73 #[.string k2, .string ad, .string nonce, .string c] x.v fun e w' => e = .returned (.string (bs (tagF F K key.data.toList ad.data.toList nonce.data.toList (sealed.data.toList.take n)))) ∧ Below x.v.heap.size x.v w' := fun x => by
    have h := tag_any x.v k2 ad nonce c hl2 h2 h1 (by omega) F K (hT1.later x.h)
    rw [hd2', hcd] at h
    exact h
  obtain ⟨tg, htg⟩ : ∃ tg, tg = bs (tagF F K key.data.toList ad.data.toList nonce.data.toList (sealed.data.toList.take n)) := ⟨_, rfl⟩
  rw [← htg] at htag
  have htgl : tg.size = 32 := by rw [htg, bs_size, tagF_length]
  have heq : ∀ x : Later w1, Calls Tryz.prog 70 #[.string tg, .string t] x.v fun e w' => e = .returned (.bool (decide (tg = t))) ∧ Below x.v.heap.size x.v w' := fun x => equal_any x.v tg t (by omega) (by rw [ht, ByteArray.size_extract]; omega)
  have hturn : ∀ x : Later w1, Calls Tryz.prog 74 #[.string k1, .string k2, .string nonce, .string c] x.v fun e w' => e = .returned (.tuple #[.string (bs (turnF F K key.data.toList nonce.data.toList (sealed.data.toList.take n))), .int .i64 0]) ∧ Below x.v.heap.size x.v w' := fun x => by
    have h := turned_any x.v k1 k2 nonce c hl1 hl2 h1 (by omega) F K (hT1.later x.h)
    rw [hd1', hd2', hcd] at h
    exact h
  have hdt : decide (tg = t) = decide (tagF F K key.data.toList ad.data.toList nonce.data.toList (sealed.data.toList.take n) = sealed.data.toList.drop n) := by
    congr 1
    rw [htg]
    apply propext
    constructor
    · intro h; rw [← htd, ← h, bs_list]
    · intro h; rw [h, ← htd, bs_of]
  rw [ht] at heq hdt
  rw [hc] at htag hturn
  have HDT : Hid (decide (tg = sealed.extract n sealed.size) = decide (tagF F K key.data.toList ad.data.toList nonce.data.toList (sealed.data.toList.take n) = sealed.data.toList.drop n)) := hdt
  clear hc ht hcd htd hcl hl1 hl2 hd1' hd2' htg htgl hdt hT1
  obtain ⟨bb, hbb⟩ : ∃ bb, bb = decide (tg = sealed.extract n sealed.size) := ⟨_, rfl⟩
  rw [← hbb] at heq
  have HBB : Hid (bb = decide (tagF F K key.data.toList ad.data.toList nonce.data.toList (sealed.data.toList.take n) = sealed.data.toList.drop n)) := hbb.trans HDT
  clear hbb HDT
  cases bb
  · have hne : ¬ (tagF F K key.data.toList ad.data.toList nonce.data.toList (sealed.data.toList.take n) = sealed.data.toList.drop n) := of_decide_eq_false HBB.symm
    clear HBB hturn
    go_wp2_with fail
    refine wp_region_later (by kernel_rfl) (by kernel_rfl) ?_
    repeat (go_big_quiet_step (first | (go_at_call 73; exact later_of (htag _)) | (go_at_call 70; exact later_of (heq _))))
    refine wpQuiet_nil ?_
    intro _ hw'
    obtain ⟨x, hw''⟩ := hw'
    subst hw''
    have b2 := b1.trans (x.h.mono b1.size)
    clear htag heq b1
    go_wp2
    go_ret2
    refine ⟨?_, b2⟩
    rw [OpenPost, if_neg hne]
    rfl
  · have hne : tagF F K key.data.toList ad.data.toList nonce.data.toList (sealed.data.toList.take n) = sealed.data.toList.drop n := of_decide_eq_true HBB.symm
    clear HBB
    have HNE := (show Hid _ from hne)
    clear hne
    go_wp2_with fail
    refine wp_region_later (by kernel_rfl) (by kernel_rfl) ?_
    repeat (go_big_quiet_step (first | (go_at_call 73; exact later_of (htag _)) | (go_at_call 70; exact later_of (heq _))))
    refine wpQuiet_nil ?_
    intro _ hw'
    obtain ⟨x, hw''⟩ := hw'
    subst hw''
    have b2 := b1.trans (x.h.mono b1.size)
    have hcall := hturn x
    clear htag heq b1 hturn
    go_wp2_with fail
    refine hcall.mono ?_
    rintro e w3 ⟨rfl, c3⟩
    have b3 := b2.trans (c3.mono b2.size)
    clear hcall b2 c3
    go_wp2
    go_ret2
    refine ⟨?_, b3⟩
    rw [OpenPost, if_pos HNE.out]
    rfl
end Go.Proofs.YtipehnojibdfeaaGreat
