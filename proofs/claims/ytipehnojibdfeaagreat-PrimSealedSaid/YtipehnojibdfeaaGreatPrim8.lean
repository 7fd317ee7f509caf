/- prim's Seal of the real kind. -/
import Derived.Test.YtipehnojibdfeaaGreatPrim7
namespace Go.Proofs.YtipehnojibdfeaaGreat
open Go Go.Proofs Go.RowKit

theorem RealPrim.later {w w' : World} {base p n : Nat} (h : RealPrim w base p n) (hb : Below w.heap.size w w') : RealPrim w' base p n := by
  obtain ⟨j, xs, hB, hJ, hne⟩ := h
  exact ⟨j, xs, hB.later hb, ownsRow_later hJ hb, hne⟩
theorem meets_seal (n : Nat) (W : World) : (method (n + 1) 75 (.agg #[]) "missive/prim.seal").run Tryz.prog W = .ok (64, .agg #[]) W := by kernel_rfl

set_option maxRecDepth 100000 in
set_option maxHeartbeats 2000000 in
theorem sealReal_any (w : World) (base p n : Nat) (hp : RealPrim w base p n) (hn : n ≤ 1000000) (hb : base ≤ w.heap.size) (hbp : base ≤ p) (key nonce ad text : ByteArray) (hk : key.size = 32) (h1 : nonce.size ≤ 16384) (h2 : ad.size ≤ 16384) (h3 : text.size ≤ 16384) (F K : Nat → Int) (hT : Tabs w F K) :
    Calls Tryz.prog 10 #[.pointer (some ⟨p, 0, none⟩), .string key, .string nonce, .string ad, .string text] w fun e w' => e = .returned (.tuple #[.string (bs (sealF F K key.data.toList nonce.data.toList ad.data.toList text.data.toList)), .int .i64 0]) ∧ RealPrim w' base p (n + 1) ∧ Below base w w' := by
  obtain ⟨j, xs, hB, hJ, hne⟩ := hp
  have hnone := none_any w p j hB
  have hlong := long_any (w.alloc (.cells #[.string nonce, .string ad, .string text] 9)) [nonce, ad, text] (some ⟨w.heap.size, 0, none⟩) 3 3 _ (reads_three w _ _ _ _) (by omega)
  have hll : longL [nonce, ad, text] = false := by simp [longL]; omega
  rw [hll] at hlong
  have q1 : Below w.heap.size w (w.alloc (.cells #[.string nonce, .string ad, .string text] 9)) := (Below.refl _ _).alloc (Nat.le_refl _) _
  have hP : RealPrim w base p n := ⟨j, xs, hB, hJ, hne⟩
  have C1 : (w.alloc (.cells #[.string nonce, .string ad, .string text] 9)).cell? ⟨p, 1, none⟩ = some (.iface 75 (.agg #[])) := (hB.alloc _).cell 1
  have hseal := plainSeal_any (w.alloc (.cells #[.string nonce, .string ad, .string text] 9)) key nonce ad text hk (by omega) (by omega) (by omega) F K (hT.later q1)
  clear hB hJ hne hll
  go_enter Tryz.func10, Tryz.ntmps10
  go_wp2_with fail
  refine hnone.mono ?_
  rintro e w' ⟨rfl, hw⟩
  rw [hw]
  clear hw w'
  go_wp2_with fail
  refine hlong.mono ?_
  rintro e w' ⟨rfl, hw⟩
  rw [hw]
  clear hw w'
  go_wp2_with fail
  rw [meets_seal]
  go_wp2_with fail
  refine hseal.mono ?_
  rintro e w2 ⟨rfl, c2⟩
  have q2 := q1.trans (c2.mono (by simp))
  have hd := did_any w2 base p n (hP.later q2) hn (Nat.le_trans hb q2.size) hbp 1 key nonce ad text (bs (sealF F K key.data.toList nonce.data.toList ad.data.toList text.data.toList))
  clear hnone hlong hseal C1
  go_wp2_with fail
  refine hd.mono ?_
  rintro e w3 ⟨rfl, hP3, c3⟩
  have q3 : Below base w w3 := (q2.mono hb).trans c3
  clear hd
  go_wp2
  go_ret2
  exact ⟨rfl, hP3, q3⟩
end Go.Proofs.YtipehnojibdfeaaGreat
