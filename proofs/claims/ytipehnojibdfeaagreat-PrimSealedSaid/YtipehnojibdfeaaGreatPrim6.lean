/- prim's Secret of the real kind. -/
import Derived.Test.YtipehnojibdfeaaGreatPrim5
namespace Go.Proofs.YtipehnojibdfeaaGreat
open Go Go.Proofs Go.RowKit

theorem plainSecret_any (w : World) (d : ByteArray) (hd : d.size = 32) : Calls Tryz.prog 65 #[.agg #[], .string d] w fun e w' => e = .returned (.string d) ∧ Below w.heap.size w w' := by
  have hkd : ((d.size : Int) != 32) = false := by rw [bne_eq_false_iff_eq]; omega
  clear hd
  go_enter Tryz.func65, Tryz.ntmps65
  go_wp2_with fail
  go_ret
  exact ⟨rfl, (Below.refl _ _).alloc (Nat.le_refl _) _⟩
theorem meets_secret (n : Nat) (W : World) : (method (n + 1) 75 (.agg #[]) "missive/prim.secret").run Tryz.prog W = .ok (65, .agg #[]) W := by kernel_rfl

set_option maxRecDepth 100000 in
set_option maxHeartbeats 2000000 in
theorem secretReal_any (w : World) (p : Nat) (j : Value) (hp : Blk w p 56 (realCells j)) (d : ByteArray) (hd : d.size = 32) : Calls Tryz.prog 9 #[.pointer (some ⟨p, 0, none⟩), .string d] w fun e w' => e = .returned (.string d) ∧ Below w.heap.size w w' := by
  have h1 := none_any w p j hp
  have h2 := plainSecret_any w d hd
  have hc' : w.cell? ⟨p, 1, none⟩ = some (.iface 75 (.agg #[])) := hp.cell 1
  clear hp
  go_enter Tryz.func9, Tryz.ntmps9
  go_wp2_with fail
  refine h1.mono ?_
  rintro e w' ⟨rfl, rfl⟩
  go_wp2_with fail
  rw [meets_secret]
  go_wp2_with fail
  refine h2.mono ?_
  rintro e w2 ⟨rfl, hb⟩
  clear h1 h2
  go_wp2
  go_ret
  exact ⟨rfl, hb⟩
end Go.Proofs.YtipehnojibdfeaaGreat
