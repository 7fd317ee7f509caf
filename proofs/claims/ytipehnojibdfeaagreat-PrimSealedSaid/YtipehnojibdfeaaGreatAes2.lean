/- Contracts of the cipher's add and of the mixing of a column. -/
import Derived.Test.YtipehnojibdfeaaGreatAes1
namespace Go.Proofs.YtipehnojibdfeaaGreat
open Go Go.Proofs Go.RowKit

/-- a block with a round's key laid under it -/
def addK (c : Nat → Int) (r : Nat) (s : Nat → Int) (k : Nat) : Nat → Int := fun i => if i < k then xor8 (s i) (c (16 * r + i)) else s i

set_option maxHeartbeats 2000000 in
theorem add_any (w : World) (cB sB r : Nat) (hr : r ≤ 14) (c s : Nat → Int) (hne : cB ≠ sB) (hC : w.rowIs cB 162 240 (fun j => .int .u8 (c j))) (hS : w.rowIs sB 146 16 (fun j => .int .u8 (s j))) :
    Calls Tryz.prog 114 #[.pointer (some ⟨cB, 0, none⟩), .pointer (some ⟨sB, 0, none⟩), .int .i64 r] w fun e w' => e = .returned (.tuple #[]) ∧ w'.rowIs sB 146 16 (fun j => .int .u8 (addK c r s 16 j)) ∧ w.grownBy w' (some sB) := by
  go_enter Tryz.func114, Tryz.ntmps114
  go_wp2_with fail
  go_loopw [7] (fun i wr => ∃ k : Nat, k ≤ 16 ∧ i = .int .i64 k ∧ wr.rowIs sB 146 16 (fun j => .int .u8 (addK c r s k j)) ∧ w.grownBy wr (some sB)) (fun i _ => 16 - (intOf i).toNat)
  case atStart => exact ⟨0, by omega, rfl, hS.congr (fun i _ => by simp [addK]), grownBy_refl _ _⟩
  case round =>
    clear hS
    obtain ⟨k, hk, rfl, hS, hb⟩ := hrel
    by_cases hk16 : k < 16
    · have hCr := rowIs_grown hC hb (by simp; omega)
      obtain ⟨we, hwe⟩ : ∃ we, we = wr := ⟨_, rfl⟩
      rw [← hwe]
      rw [← hwe] at hS hCr hb
      clear hwe
      have C1 := later_cell (hS.cell (i := k) hk16)
      have C2 := later_cell (hCr.cell (i := (4 * r + k / 4) * 4 + k % 4) (by omega))
      clear hC hCr
      go_wp2_with fail
      refine wp_region_later_tail 20 (by kernel_rfl) (by kernel_rfl) ?_
      simp only [List.take_succ_cons, List.take_zero, List.drop_succ_cons, List.drop_zero]
      repeat (go_big_quiet_step (fail))
      refine wpQuiet_nil ?_
      intro _ hw'
      obtain ⟨x, hw''⟩ := hw'
      subst hw''
      have hfz := (rowIs_later hS x.h).frozen k
      have hmc := (rowIs_later hS x.h).cell (i := k) hk16
      go_wp2
      go_roundw
      case rel =>
        refine ⟨k + 1, by omega, by go_num, ((rowIs_later hS x.h).set k _).congr (fun j _ => ?_), grownBy_set (grownBy_later hb x.h) _⟩
        by_cases hj : j = k
        · subst hj; simp [addK, xor8, show (4 * r + j / 4) * 4 + j % 4 = 16 * r + j by omega]
        · simp [addK, hj, show (j < k + 1) = (j < k) from propext (by omega)]
      case measure => simp [intOf]; omega
    · obtain rfl : k = 16 := by omega
      go_wp2
      go_end0
      exact ⟨rfl, hS, hb⟩
/-- a column, mixed -/
def mixAll (x : Nat → Int) : Int := xor8 (xor8 (xor8 (x 0) (x 1)) (x 2)) (x 3)
def mixC (x : Nat → Int) (j : Nat) : Int := xor8 (x j) (xor8 (mixAll x) (twice8 (xor8 (x j) (x ((j + 1) % 4)))))
def mixTo (x : Nat → Int) (k : Nat) : Nat → Int := fun j => if j < k then mixC x j else x j

set_option maxHeartbeats 2000000 in
theorem mix_any (w : World) (tB o n cap : Nat) (hn : 4 ≤ n) (t : Nat → Int) (ho : o + 4 ≤ 16) (hS : w.rowIs tB 146 16 (fun j => .int .u8 (t j))) :
    Calls Tryz.prog 115 #[.slice (some ⟨tB, o, none⟩) n cap] w fun e w' => e = .returned (.tuple #[]) ∧ w'.rowIs tB 146 16 (fun j => .int .u8 (if o ≤ j ∧ j < o + 4 then mixC (fun i => t (o + i)) (j - o) else t j)) ∧ w.grownBy w' (some tB) := by
  go_enter Tryz.func115, Tryz.ntmps115
  have C0 := hS.cell (i := o) (by omega)
  have C1 := hS.cell (i := o + 1) (by omega)
  have C2 := hS.cell (i := o + 2) (by omega)
  have C3 := hS.cell (i := o + 3) (by omega)
  go_wp2_with fail
  go_quiet (fail)
  go_wp2_with fail
  go_loopw [23] (fun i wr => ∃ k : Nat, k ≤ 3 ∧ i = .int .i64 k ∧ wr.rowIs tB 146 16 (fun j => .int .u8 (if o ≤ j ∧ j < o + k then mixC (fun i => t (o + i)) (j - o) else t j)) ∧ w.grownBy wr (some tB)) (fun i _ => 3 - (intOf i).toNat)
  case atStart => exact ⟨0, by omega, rfl, (World.rowIs.of_block hS rfl).congr (fun j _ => by simp; omega), grownBy_of_below (below_drewN' (Below.refl _ _) _) _⟩
  case round =>
    obtain ⟨k, hk, rfl, hM, hb⟩ := hrel
    by_cases hk3 : k < 3
    · obtain ⟨we, hwe⟩ : ∃ we, we = wr := ⟨_, rfl⟩
      rw [← hwe]
      rw [← hwe] at hM hb
      clear hwe C0 C1 C2 C3
      have D0 : we.cell? ⟨tB, o + k, none⟩ = some (.int .u8 (t (o + k))) := by have := hM.cell (i := o + k) (by omega); simpa using this
      have D1 : we.cell? ⟨tB, o + (k + 1), none⟩ = some (.int .u8 (t (o + (k + 1)))) := by have := hM.cell (i := o + (k + 1)) (by omega); rw [if_neg (by omega)] at this; exact this
      have E0 := later_cell D0
      have E1 := later_cell D1
      go_wp2_with fail
      refine wp_region_later_tail 19 (by kernel_rfl) (by kernel_rfl) ?_
      simp only [List.take_succ_cons, List.take_zero, List.drop_succ_cons, List.drop_zero]
      repeat (go_big_quiet_step (((go_at_call 113; exact later_of_drawn (twice_any _ _ (xor8_in _ _).1 (xor8_in _ _).2)))))
      refine wpQuiet_nil ?_
      intro _ hw'
      obtain ⟨x, hw''⟩ := hw'
      subst hw''
      have hfz := (rowIs_later hM x.h).frozen (o + k)
      have hmc := (rowIs_later hM x.h).cell (i := o + k) (by omega)
      clear D0 D1 E0 E1
      go_wp2
      go_roundw
      case rel =>
        refine ⟨k + 1, by omega, by go_num, ((rowIs_later hM x.h).set (o + k) _).congr (fun j _ => ?_), grownBy_set (grownBy_later hb x.h) _⟩
        by_cases hj : j = o + k
        · subst hj
          have hm : (k + 1) % 4 = k + 1 := by omega
          simp [mixC, mixAll, xor8, hm]
        · have e : (o ≤ j ∧ j < o + (k + 1)) = (o ≤ j ∧ j < o + k) := propext (by omega)
          simp only [if_neg hj, e]
      case measure => simp [intOf]; omega
    · obtain rfl : k = 3 := by omega
      obtain ⟨we, hwe⟩ : ∃ we, we = wr := ⟨_, rfl⟩
      rw [← hwe]
      rw [← hwe] at hM hb
      clear hwe C0 C1 C2 C3
      have D3 : we.cell? ⟨tB, o + 3, none⟩ = some (.int .u8 (t (o + 3))) := by have := hM.cell (i := o + 3) (by omega); rw [if_neg (by omega)] at this; exact this
      have E3 := later_cell D3
      go_wp2_with fail
      refine wp_region_later_tail 13 (by kernel_rfl) (by kernel_rfl) ?_
      simp only [List.take_succ_cons, List.take_zero, List.drop_succ_cons, List.drop_zero]
      repeat (go_big_quiet_step (((go_at_call 113; exact later_of_drawn (twice_any _ _ (xor8_in _ _).1 (xor8_in _ _).2)))))
      refine wpQuiet_nil ?_
      intro _ hw'
      obtain ⟨x, hw''⟩ := hw'
      subst hw''
      have hfz := (rowIs_later hM x.h).frozen (o + 3)
      have hmc := (rowIs_later hM x.h).cell (i := o + 3) (by omega)
      clear D3 E3
      go_wp2
      go_end0
      refine ⟨rfl, ((rowIs_later hM x.h).set (o + 3) _).congr (fun j _ => ?_), grownBy_set (grownBy_later hb x.h) _⟩
      by_cases hj : j = o + 3
      · subst hj
        simp [mixC, mixAll, xor8]
      · have e : (o ≤ j ∧ j < o + 4) = (o ≤ j ∧ j < o + 3) := propext (by omega)
        simp only [if_neg hj, e]
end Go.Proofs.YtipehnojibdfeaaGreat
