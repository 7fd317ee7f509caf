/- the table of terms: none, text, Len, the keys of the terms. -/
import Derived.Test.YtipehnojibdfeaaGreatWire3
namespace Go.Proofs.YtipehnojibdfeaaGreat
open Go Go.Proofs Go.RowKit

theorem mapNil (W : World) (m : Nat) : (binOp BinOp.eql 86 (.map (some m)) (.map none)).run Tryz.prog W = .ok (.bool false) W := by kernel_rfl
set_option maxRecDepth 100000 in
theorem termNone_cell (w : World) (t m : Nat) (h : w.cell? ⟨t, 1, none⟩ = some (.map (some m))) : Calls Tryz.prog 136 #[.pointer (some ⟨t, 0, none⟩)] w fun e w' => e = .returned (.bool false) ∧ w' = w := by
  go_enter Tryz.func136, Tryz.ntmps136
  have hm := mapNil w m
  go_wp2_with fail
  go_ret
  exact ⟨rfl, rfl⟩
set_option maxRecDepth 100000 in
theorem termNone_any (w : World) (base t M : Nat) (T : List Node) (k : Nat) (h : TableAt w base t M T k) : Calls Tryz.prog 136 #[.pointer (some ⟨t, 0, none⟩)] w fun e w' => e = .returned (.bool false) ∧ w' = w := by
  obtain ⟨lv, xs, m, D, a1, _⟩ := h
  exact termNone_cell w t m (a1.cell 1)
set_option maxRecDepth 100000 in
theorem termLen_any (w : World) (base t M : Nat) (T : List Node) (k : Nat) (h : TableAt w base t M T k) : Calls Tryz.prog 149 #[.pointer (some ⟨t, 0, none⟩)] w fun e w' => e = .returned (.int .i64 (T.length : Int)) ∧ w' = w := by
  have h0 := termNone_any w base t M T k h
  obtain ⟨lv, xs, m, D, a1, a2, _⟩ := h
  obtain ⟨A, c, hv⟩ := ownsRow_slice a2
  subst hv
  have C0 : w.cell? ⟨t, 0, none⟩ = some (.slice A T.length c) := a1.cell 0
  clear a1 a2
  go_enter Tryz.func149, Tryz.ntmps149
  go_wp2_with fail
  refine h0.mono ?_
  rintro e w' ⟨rfl, hw⟩
  rw [hw]
  clear hw w' h0
  go_wp2
  go_ret
  exact ⟨rfl, rfl⟩
set_option maxRecDepth 100000 in
theorem text_any (w : World) (n : Nat) (hn : n ≤ 65536) : Calls Tryz.prog 137 #[.int .i64 (n : Int)] w fun e w' => e = .returned (.string (bs (textL n))) ∧ Below w.heap.size w w' := by
  have hp := putNumber_any w ⟨#[240, 84, 82, 77]⟩ 4 (n : Int) (by omega) (by omega) (by show (4 : Nat) ≤ _; omega) (by omega) (by omega)
  go_enter Tryz.func137, Tryz.ntmps137
  go_wp2_with fail
  refine hp.mono ?_
  rintro e w' ⟨rfl, hb⟩
  clear hp
  go_wp2
  go_ret
  exact ⟨rfl, hb⟩

set_option maxRecDepth 100000 in
theorem nameKey_any (w : World) (n : Nat) (hn : n ≤ 65536) : Calls Tryz.prog 153 #[.agg #[.int .i64 (n : Int)]] w fun e w' => e = .returned (.string (bs (Node.name n).key)) ∧ Below w.heap.size w w' := by
  have hp := putNumber_any (w.alloc (.cells #[.int .i64 (n : Int)] 190)) ⟨#[110]⟩ 4 (n : Int) (by omega) (by omega) (by show (1 : Nat) ≤ _; omega) (by omega) (by omega)
  go_enter Tryz.func153, Tryz.ntmps153
  go_wp2_with fail
  refine hp.mono ?_
  rintro e w' ⟨rfl, hb⟩
  clear hp
  go_wp2
  go_ret
  exact ⟨rfl, ((Below.refl _ _).alloc (Nat.le_refl _) _).trans (hb.mono (by simp))⟩
set_option maxRecDepth 100000 in
theorem dataKey_any (w : World) (s : List UInt8) (hs : s.length ≤ 100000000000) : Calls Tryz.prog 155 #[.agg #[.string (bs s)]] w fun e w' => e = .returned (.string (bs (Node.data s).key)) ∧ Below w.heap.size w w' := by
  have hadd := fun W => run_string_add_sum (P := Tryz.prog) W ⟨#[100]⟩ (bs s) (by rw [bs_size]; show 1 + s.length ≤ _; omega)
  go_enter Tryz.func155, Tryz.ntmps155
  go_wp2_with fail
  go_ret
  exact ⟨rfl, (Below.refl _ _).alloc (Nat.le_refl _) _⟩
end Go.Proofs.YtipehnojibdfeaaGreat
