/- prim's Open of the real kind. -/
import Derived.Test.YtipehnojibdfeaaGreatPrim8
namespace Go.Proofs.YtipehnojibdfeaaGreat
open Go Go.Proofs Go.RowKit

theorem meets_open (n : Nat) (W : World) : (method (n + 1) 75 (.agg #[]) "missive/prim.open").run Tryz.prog W = .ok (62, .agg #[]) W := by kernel_rfl

set_option maxRecDepth 100000 in
set_option maxHeartbeats 2000000 in
theorem openReal_of (w : World) (base p n : Nat) (hp : RealPrim w base p n) (hn : n ≤ 1000000) (hb : base ≤ w.heap.size) (hbp : base ≤ p) (key nonce ad sealed out : ByteArray) (er : Int) (her : er = 0 ∨ er = 10)
    (hopen : Calls Tryz.prog 62 #[.agg #[], .string key, .string nonce, .string ad, .string sealed] w fun e w' => e = .returned (.tuple #[.string out, .int .i64 er]) ∧ Below w.heap.size w w') :
    Calls Tryz.prog 11 #[.pointer (some ⟨p, 0, none⟩), .string key, .string nonce, .string ad, .string sealed] w fun e w' => e = .returned (.tuple #[.string out, .int .i64 er]) ∧ (∃ m, m ≤ n + 1 ∧ RealPrim w' base p m) ∧ Below base w w' := by
  obtain ⟨j, xs, hB, hJ, hne⟩ := hp
  have hnone := none_any w p j hB
  have hP : RealPrim w base p n := ⟨j, xs, hB, hJ, hne⟩
  have C1 : w.cell? ⟨p, 1, none⟩ = some (.iface 75 (.agg #[])) := hB.cell 1
  clear hB hJ hne
  go_enter Tryz.func11, Tryz.ntmps11
  go_wp2_with fail
  refine hnone.mono ?_
  rintro e w' ⟨rfl, hw⟩
  rw [hw]
  clear hw w'
  go_wp2_with fail
  rw [meets_open]
  go_wp2_with fail
  refine hopen.mono ?_
  rintro e w2 ⟨rfl, c2⟩
  rcases her with rfl | rfl
  · have hd := did_any w2 base p n (hP.later c2) hn (Nat.le_trans hb c2.size) hbp 2 key nonce ad sealed out
    clear hnone hopen C1
    go_wp2_with fail
    refine hd.mono ?_
    rintro e w3 ⟨rfl, hP3, c3⟩
    have q3 : Below base w w3 := (c2.mono hb).trans c3
    clear hd
    go_wp2
    go_ret2
    exact ⟨rfl, ⟨_, Nat.le_refl _, hP3⟩, q3⟩
  · have hP2 := hP.later c2
    clear hnone hopen C1
    go_wp2
    go_ret2
    exact ⟨rfl, ⟨n, by omega, hP2⟩, c2.mono hb⟩
end Go.Proofs.YtipehnojibdfeaaGreat
