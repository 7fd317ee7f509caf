/- wire's PutText. -/
import Derived.Test.YtipehnojibdfeaaGreatWire1
namespace Go.Proofs.YtipehnojibdfeaaGreat
open Go Go.Proofs Go.RowKit

/-- a text, laid behind others -/
def putL (l s : List UInt8) : List UInt8 := l ++ numTo (s.length : Int) 4 4 ++ s
theorem putL_length (l s : List UInt8) : (putL l s).length = l.length + 4 + s.length := by simp [putL, numTo_length]; omega

set_option maxHeartbeats 2000000 in
theorem putText_any (w : World) (b s : ByteArray) (hb : b.size ≤ 70368744177664) (hs : s.size ≤ 70368744177664) :
    Calls Tryz.prog 88 #[.string b, .string s] w fun e w' => e = .returned (.string ⟨(putL b.data.toList s.data.toList).toArray⟩) ∧ Below w.heap.size w w' := by
  have hp := fun W => putNumber_any W b 4 s.size (by omega) (by omega) hb (by omega) (by omega)
  have HP : Hid (∀ W, Calls Tryz.prog 32 #[.string b, .int .i64 ((4 : Nat) : Int), .int .u64 s.size] W fun e w' => e = .returned (.string ⟨(b.data.toList ++ numTo s.size 4 4).toArray⟩) ∧ Below W.heap.size W w') := hp
  have hl : (⟨(b.data.toList ++ numTo s.size 4 4).toArray⟩ : ByteArray).size = b.size + 4 := by
    show (b.data.toList ++ numTo s.size 4 4).toArray.size = b.size + 4
    simp [numTo_length]
  obtain ⟨t, ht⟩ : ∃ t : ByteArray, t = ⟨(b.data.toList ++ numTo s.size 4 4).toArray⟩ := ⟨_, rfl⟩
  rw [← ht] at hl HP
  have hl2 : t.size ≤ b.size + 4 := by omega
  have HT : Hid (t = ⟨(b.data.toList ++ numTo s.size 4 4).toArray⟩) := ht
  have hadd := fun W => run_string_add_sum (P := Tryz.prog) W t s (by omega)
  clear hp hl ht
  go_enter Tryz.func88, Tryz.ntmps88
  go_wp2_with fail
  refine (HP.out w).mono ?_
  rintro e w1 ⟨rfl, b1⟩
  clear HP
  go_wp2
  go_ret
  refine ⟨?_, b1⟩
  rw [HT.out]
  congr 2
end Go.Proofs.YtipehnojibdfeaaGreat
