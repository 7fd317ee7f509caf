/- prim's kind of terms: named, part, is. -/
import Derived.Test.YtipehnojibdfeaaGreatTerm10
namespace Go.Proofs.YtipehnojibdfeaaGreat
open Go Go.Proofs Go.RowKit

theorem bs_beq (a b : List UInt8) : ((bs a).toList == (bs b).toList) = decide (a = b) := by
  rw [Lib.toList_data, Lib.toList_data, bs_list, bs_list]
  by_cases h : a = b <;> simp [h]
set_option maxRecDepth 100000 in
theorem named_any (w : World) (n : Nat) (hn : n ≤ 65536) : Calls Tryz.prog 147 #[.int .i64 (n : Int)] w fun e w' => e = .returned (.string (bs (textL n))) ∧ Below w.heap.size w w' := by
  have hp := putNumber_any w ⟨#[240, 84, 82, 77]⟩ 4 (n : Int) (by omega) (by omega) (by show (4 : Nat) ≤ _; omega) (by omega) (by omega)
  go_enter Tryz.func147, Tryz.ntmps147
  go_wp2_with fail
  refine hp.mono ?_
  rintro e w' ⟨rfl, hb⟩
  clear hp
  go_wp2
  go_ret
  exact ⟨rfl, hb⟩

set_option maxRecDepth 100000 in
set_option maxHeartbeats 4000000 in
theorem part_data (w : World) (base t M : Nat) (T : List Node) (k : Nat) (hT : TableAt w base t M T k) (hlen : T.length ≤ 60000) (n : Nat) (d : List UInt8) (hx : T[n]? = some (.data d)) :
    Calls Tryz.prog 135 #[.pointer (some ⟨t, 0, none⟩), .int .i64 (n : Int)] w fun e w' => e = .returned (.tuple #[.agg #[.int .i64 2, .int .i64 0, .string (bs d), .slice none 0 0], .string (bs d)]) ∧ Below w.heap.size w w' := by
  have hnl : n < T.length := (List.getElem?_eq_some_iff.1 hx).1
  obtain ⟨w1, hw1⟩ : ∃ w1, w1 = w.alloc (.cells #[.int .i64 0, .int .i64 0, .string ⟨#[]⟩, .slice none 0 0] 181) := ⟨_, rfl⟩
  have b1 : Below w.heap.size w w1 := by rw [hw1]; exact (Below.refl _ _).alloc (Nat.le_refl _) _
  have hR1 : Blk w1 w.heap.size 181 #[.int .i64 0, .int .i64 0, .string ⟨#[]⟩, .slice none 0 0] := by rw [hw1]; exact Blk.new _ _ _
  have hnm := named_any w1 n (by omega)
  have HW1 : Hid (w1 = w.alloc (.cells #[.int .i64 0, .int .i64 0, .string ⟨#[]⟩, .slice none 0 0] 181)) := hw1
  clear hw1
  go_enter Tryz.func135, Tryz.ntmps135
  go_wp2_with fail
  rw [← HW1.out]
  refine hnm.mono ?_
  rintro e w2 ⟨rfl, b2⟩
  have b12 := Below.step b1 b2
  have hof := of_data w2 base t M T k (hT.later b12) (by omega) (textL n) (by rw [textL_length]; omega) n (numOf_text _ _ hnl (by omega)) d hx
  clear hnm
  go_wp2_with fail
  refine hof.mono ?_
  rintro e w3 ⟨rfl, b3⟩
  clear hof
  have b123 : Below w.heap.size w w3 := Below.step b12 b3
  have hR3 := (hR1.later b2).later b3
  obtain ⟨w4, hw4⟩ : ∃ w4, w4 = w3.alloc (.cells #[.int .i64 2, .int .i64 0, .string (bs d), .slice none 0 0] 181) := ⟨_, rfl⟩
  have hD4 : Blk w4 w3.heap.size 181 #[.int .i64 2, .int .i64 0, .string (bs d), .slice none 0 0] := by rw [hw4]; exact Blk.new _ _ _
  have hR4 : Blk w4 w.heap.size 181 #[.int .i64 0, .int .i64 0, .string ⟨#[]⟩, .slice none 0 0] := by rw [hw4]; exact hR3.alloc _
  have b4 : Below w.heap.size w w4 := by rw [hw4]; exact b123.alloc b123.size _
  have D0' : (w3.alloc (.cells #[.int .i64 2, .int .i64 0, .string (bs d), .slice none 0 0] 181)).cell? ⟨w3.heap.size, 0, none⟩ = some (.int .i64 2) := by rw [← hw4]; exact hD4.cell 0
  have HW4 : Hid (w4 = w3.alloc (.cells #[.int .i64 2, .int .i64 0, .string (bs d), .slice none 0 0] 181)) := hw4
  have HNE : Hid (w.heap.size < w3.heap.size) := hR3.lt
  clear hw4 hR1 hR3 b1 b2 b3 b12 b123 HW1 hT
  go_wp2_with fail
  rw [← HW4.out]
  have D0 : w4.cell? ⟨w3.heap.size, 0, none⟩ = some (.int .i64 2) := hD4.cell 0
  have D1 : w4.cell? ⟨w3.heap.size, 1, none⟩ = some (.int .i64 0) := hD4.cell 1
  have D2 : w4.cell? ⟨w3.heap.size, 2, none⟩ = some (.string (bs d)) := hD4.cell 2
  have D3 : w4.cell? ⟨w3.heap.size, 3, none⟩ = some (.slice none 0 0) := hD4.cell 3
  have R0 : w4.cell? ⟨w.heap.size, 0, none⟩ = some (.int .i64 0) := hR4.cell 0
  have R1 : w4.cell? ⟨w.heap.size, 1, none⟩ = some (.int .i64 0) := hR4.cell 1
  have R2 : w4.cell? ⟨w.heap.size, 2, none⟩ = some (.string ⟨#[]⟩) := hR4.cell 2
  have R3 : w4.cell? ⟨w.heap.size, 3, none⟩ = some (.slice none 0 0) := hR4.cell 3
  have F0 : w4.frozen? ⟨w.heap.size, 0, none⟩ = false := hR4.frozen 0
  have F1 : w4.frozen? ⟨w.heap.size, 1, none⟩ = false := hR4.frozen 1
  have F2 : w4.frozen? ⟨w.heap.size, 2, none⟩ = false := hR4.frozen 2
  have F3 : w4.frozen? ⟨w.heap.size, 3, none⟩ = false := hR4.frozen 3
  clear HW4 D0'
  have hne1 : ¬ w3.heap.size = w.heap.size := by have := HNE.out; omega
  have hne2 : ¬ w.heap.size = w3.heap.size := by have := HNE.out; omega
  go_region
  have hR6 : Blk ((((w4.setCell ⟨w.heap.size, 0, none⟩ (.int .i64 2)).setCell ⟨w.heap.size, 1, none⟩ (.int .i64 0)).setCell ⟨w.heap.size, 2, none⟩ (.string (bs d))).setCell ⟨w.heap.size, 3, none⟩ (.slice none 0 0)).drew w.heap.size 181 #[.int .i64 2, .int .i64 0, .string (bs d), .slice none 0 0] := (((hR4.set_ 0 _).set_ 1 _).set_ 2 _).set_ 3 _
  have b6 : Below w.heap.size w ((((w4.setCell ⟨w.heap.size, 0, none⟩ (.int .i64 2)).setCell ⟨w.heap.size, 1, none⟩ (.int .i64 0)).setCell ⟨w.heap.size, 2, none⟩ (.string (bs d))).setCell ⟨w.heap.size, 3, none⟩ (.slice none 0 0)) := (((b4.setCell (Nat.le_refl _) _).setCell (Nat.le_refl _) _).setCell (Nat.le_refl _) _).setCell (Nat.le_refl _) _
  go_wp2
  refine bodyPost_ret (results_cell_row_tmp rfl _ _ w.heap.size 181 _ (0, 0) _ rfl hR6 Tryz.underlying181 rfl termInfo) rfl ?_
  exact ⟨rfl, b6.os, b6.tape, b6.output, b6.size, b6.block⟩

set_option maxRecDepth 100000 in
set_option maxHeartbeats 4000000 in
theorem is_name (w : World) (base t M : Nat) (T : List Node) (k : Nat) (hT : TableAt w base t M T k) (hlen : T.length ≤ 60000) (s : List UInt8) (hs : s.length ≤ 9223372036854775807) (m j : Nat) (hm : numOf T.length s = some m) (hx : T[m]? = some (.name j)) (n : Nat) (hn : n ≤ 65536) (b : Bool) (hbv : b = decide (s = textL n)) :
    Calls Tryz.prog 134 #[.agg #[.pointer (some ⟨t, 0, none⟩)], .string (bs s), .int .i64 (n : Int)] w fun e w' => e = .returned (.bool b) ∧ Below w.heap.size w w' := by
  have b1 : Below w.heap.size w (w.alloc (.cells #[.pointer (some ⟨t, 0, none⟩)] 78)) := (Below.refl _ _).alloc (Nat.le_refl _) _
  have hof := of_name _ base t M T k (hT.later b1) (by omega) s hs m hm j hx
  have heq : ((bs s).toList == (bs (textL n)).toList) = b := (bs_beq s (textL n)).trans hbv.symm
  clear hbv
  go_enter Tryz.func134, Tryz.ntmps134
  go_wp2_with fail
  refine hof.mono ?_
  rintro e w2 ⟨rfl, b2⟩
  clear hof
  have b12 := Below.step b1 b2
  have hnm := named_any (w2.alloc (.cells #[.int .i64 1, .int .i64 (j : Int), .string ⟨#[]⟩, .slice none 0 0] 181)) n hn
  go_wp2_with fail
  refine hnm.mono ?_
  rintro e w3 ⟨rfl, b3⟩
  clear hnm
  have b123 : Below w.heap.size w w3 := (b12.alloc b12.size _).trans (b3.mono (by have := b12.size; simp; omega))
  clear b12 b1 b2 b3
  go_wp2
  go_ret
  exact ⟨rfl, b123⟩

set_option maxRecDepth 100000 in
set_option maxHeartbeats 4000000 in
theorem is_data (w : World) (base t M : Nat) (T : List Node) (k : Nat) (hT : TableAt w base t M T k) (hlen : T.length ≤ 60000) (s : List UInt8) (hs : s.length ≤ 9223372036854775807) (hm : numOf T.length s = none) (n : Nat) (d : List UInt8) (hx : T[n]? = some (.data d)) (b : Bool) (hbv : b = decide (s = d)) :
    Calls Tryz.prog 134 #[.agg #[.pointer (some ⟨t, 0, none⟩)], .string (bs s), .int .i64 (n : Int)] w fun e w' => e = .returned (.bool b) ∧ Below w.heap.size w w' := by
  obtain ⟨w1, hw1⟩ : ∃ w1, w1 = w.alloc (.cells #[.pointer (some ⟨t, 0, none⟩)] 78) := ⟨_, rfl⟩
  have b1 : Below w.heap.size w w1 := by rw [hw1]; exact (Below.refl _ _).alloc (Nat.le_refl _) _
  have hS1 : Blk w1 w.heap.size 78 #[.pointer (some ⟨t, 0, none⟩)] := by rw [hw1]; exact Blk.new _ _ _
  have hof := of_none w1 base t M T k (hT.later b1) (by omega) s hs hm
  have heq : ((bs s).toList == (bs d).toList) = b := (bs_beq s d).trans hbv.symm
  have HW1 : Hid (w1 = w.alloc (.cells #[.pointer (some ⟨t, 0, none⟩)] 78)) := hw1
  clear hbv hw1
  go_enter Tryz.func134, Tryz.ntmps134
  go_wp2_with fail
  rw [← HW1.out]
  refine hof.mono ?_
  rintro e w2 ⟨rfl, b2⟩
  clear hof
  have b12 := Below.step b1 b2
  have z2 : Below w2.heap.size w2 (w2.alloc (.cells #[.int .i64 0, .int .i64 0, .string ⟨#[]⟩, .slice none 0 0] 181)) := (Below.refl _ _).alloc (Nat.le_refl _) _
  have S2 : (w2.alloc (.cells #[.int .i64 0, .int .i64 0, .string ⟨#[]⟩, .slice none 0 0] 181)).cell? ⟨w.heap.size, 0, none⟩ = some (.pointer (some ⟨t, 0, none⟩)) := Below.cell_some (Below.step b2 z2) (hS1.cell 0)
  have hpart := part_data (w2.alloc (.cells #[.int .i64 0, .int .i64 0, .string ⟨#[]⟩, .slice none 0 0] 181)) base t M T k ((hT.later b12).later z2) hlen n d hx
  clear HW1 hS1
  show _
  unfold zeroTerm
  go_wp2_with fail
  refine hpart.mono ?_
  rintro e w3 ⟨rfl, b3⟩
  clear hpart S2
  have b123 : Below w.heap.size w w3 := (Below.step b12 z2).trans (b3.mono (by have := b12.size; simp; omega))
  have D0 : (w3.alloc (.cells #[.int .i64 2, .int .i64 0, .string (bs d), .slice none 0 0] 181)).cell? ⟨w3.heap.size, 0, none⟩ = some (.int .i64 2) := (Blk.new w3 _ _).cell 0
  have D2 : (w3.alloc (.cells #[.int .i64 2, .int .i64 0, .string (bs d), .slice none 0 0] 181)).cell? ⟨w3.heap.size, 2, none⟩ = some (.string (bs d)) := (Blk.new w3 _ _).cell 2
  clear b12 b1 b2 b3
  go_wp2
  go_ret
  exact ⟨rfl, b123.alloc b123.size _⟩
end Go.Proofs.YtipehnojibdfeaaGreat
