/- Contracts of hash's small functions: turn, mixed, moved, at 32 bits: each computes its Lean twin, for words and shifts in range; nothing that was there changes. -/
import Derived.Test.YtipehnojibdfeaaGreatProg
import Derived.Test.YtipehnojibdfeaaGreatGrow
import Derived.WalkKit
namespace Go.Proofs.YtipehnojibdfeaaGreat
open Go Go.Proofs Go.RowKit

theorem bits_u32 (op : BinOp) (x y : Int) : 0 ≤ bits op .u32 x y ∧ bits op .u32 x y < 4294967296 := by
  unfold bits
  rw [IntKind.wrap_u32]
  omega

/-- a 32-bit word turned towards its lower end -/
def turn32 (x n : Int) : Int := bits BinOp.or IntKind.u32 (x / 2 ^ n.toNat) (x * 2 ^ (32 - n).toNat % 4294967296)
def mixed32 (x a b c : Int) : Int := bits BinOp.xor IntKind.u32 (bits BinOp.xor IntKind.u32 (turn32 x a) (turn32 x b)) (turn32 x c)
def moved32 (x a b c : Int) : Int := bits BinOp.xor IntKind.u32 (bits BinOp.xor IntKind.u32 (turn32 x a) (turn32 x b)) (x / 2 ^ c.toNat)
theorem mixed32_in (x a b c : Int) : 0 ≤ mixed32 x a b c ∧ mixed32 x a b c < 4294967296 := bits_u32 _ _ _
theorem moved32_in (x a b c : Int) : 0 ≤ moved32 x a b c ∧ moved32 x a b c < 4294967296 := bits_u32 _ _ _

theorem turn32_any (x n : Int) (w : World) (h0 : 0 ≤ n) (h1 : n ≤ 32) :
    Calls Tryz.prog 120 #[.int .u32 x, .int .i64 n, .int .i64 32] w fun e w' => e = .returned (.int .u32 (turn32 x n)) ∧ ∃ n, w' = w.drewN n := by
  go_enter Tryz.func120, Tryz.ntmps120
  go_wp2
  go_quiet (fail)
  go_wp2
  go_ret
  exact ⟨rfl, _, rfl⟩

set_option maxHeartbeats 1000000 in
theorem mixed32_any (x a b c : Int) (w : World) (ha : 0 ≤ a) (ha' : a ≤ 32) (hb : 0 ≤ b) (hb' : b ≤ 32) (hc : 0 ≤ c) (hc' : c ≤ 32) :
    Calls Tryz.prog 118 #[.int .u32 x, .agg #[.int .i64 a, .int .i64 b, .int .i64 c], .int .i64 32] w fun e w' => e = .returned (.int .u32 (mixed32 x a b c)) ∧ Below w.heap.size w w' := by
  go_enter Tryz.func118, Tryz.ntmps118
  go_wp2
  go_quiet ((go_at_call 120; exact Calls.quiet_of (turn32_any _ _ _ (by omega) (by omega))))
  go_wp2
  go_ret
  exact ⟨rfl, below_drewN' ((Below.refl _ _).alloc (Nat.le_refl _) _) _⟩

set_option maxHeartbeats 1000000 in
theorem moved32_any (x a b c : Int) (w : World) (ha : 0 ≤ a) (ha' : a ≤ 32) (hb : 0 ≤ b) (hb' : b ≤ 32) (hc : 0 ≤ c) (hc' : c ≤ 32) :
    Calls Tryz.prog 117 #[.int .u32 x, .agg #[.int .i64 a, .int .i64 b, .int .i64 c], .int .i64 32] w fun e w' => e = .returned (.int .u32 (moved32 x a b c)) ∧ Below w.heap.size w w' := by
  go_enter Tryz.func117, Tryz.ntmps117
  go_wp2
  go_quiet ((go_at_call 120; exact Calls.quiet_of (turn32_any _ _ _ (by omega) (by omega))))
  go_wp2
  go_ret
  exact ⟨rfl, below_drewN' ((Below.refl _ _).alloc (Nat.le_refl _) _) _⟩
end Go.Proofs.YtipehnojibdfeaaGreat
