/- prim.New of the real kind; none. -/
import Derived.Test.YtipehnojibdfeaaGreatPrim4
namespace Go.Proofs.YtipehnojibdfeaaGreat
open Go Go.Proofs Go.RowKit

/-- a prim's cells: its kind, its kit, its table, its journal -/
def realCells (j : Value) : Array Value := #[.int .i64 0, .iface 75 (.agg #[]), .pointer none, j]
theorem newReal (w : World) : Calls Tryz.prog 21 #[.int .i64 0] w fun e w' => e = .returned (.tuple #[.pointer (some ⟨w.heap.size, 0, none⟩), .int .i64 0]) ∧ Blk w' w.heap.size 56 (realCells (.slice none 0 0)) ∧ Below w.heap.size w w' := by
  go_enter Tryz.func21, Tryz.ntmps21
  go_wp2_with fail
  go_ret2
  exact ⟨rfl, Blk.new _ _ _, (Below.refl _ _).alloc (Nat.le_refl _) _⟩
theorem none_any (w : World) (p : Nat) (j : Value) (hp : Blk w p 56 (realCells j)) : Calls Tryz.prog 27 #[.pointer (some ⟨p, 0, none⟩)] w fun e w' => e = .returned (.bool false) ∧ w' = w := by
  have hc := hp.cell 1
  have hc' : w.cell? ⟨p, 1, none⟩ = some (.iface 75 (.agg #[])) := hc
  clear hc
  go_enter Tryz.func27, Tryz.ntmps27
  go_wp2_with fail
  go_ret
  exact ⟨rfl, rfl⟩
end Go.Proofs.YtipehnojibdfeaaGreat
