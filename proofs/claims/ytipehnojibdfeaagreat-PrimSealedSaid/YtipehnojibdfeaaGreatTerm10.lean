/- the table of terms: Of. -/
import Derived.Test.YtipehnojibdfeaaGreatTerm9
import Derived.Laws.ResultCell
import Derived.Deep.RegionHeld3
namespace Go.Proofs.YtipehnojibdfeaaGreat
open Go Go.Proofs Go.RowKit

theorem results_cell_row_tmp {P : Program} {fn : Func} {p u : Tmp} {ty : TypeId} (h : fn.results = #[.cell p ty, .tmp u]) (tmps : Array Value) (w : World) (g : Nat) (t : TypeId) (cs : Array Value) (fr : Nat × Nat) (d : TypeDesc)
    (hp : tmps.getD p undef = .pointer (some ⟨g, 0, none⟩)) (hg : w.heap[g]? = some (.cells cs t fr))
    (hu : P.underlying ty = some d) (hd : (match d with | .struct _ | .array _ _ => true | _ => false) = true) (hi : (P.info? ty).map (·.size) = some cs.size) :
    (results fn tmps).run P w = .ok (.tuple #[.agg cs, tmps.getD u undef]) w := by
  have hp' : tmps[p]?.getD undef = .pointer (some ⟨g, 0, none⟩) := by simpa using hp
  rw [results_cell_tmp h]
  simp [hp', asAddr, run_loadVar_row w g t ty cs fr d hg hu hd hi, Result.andThen]
theorem termInfo : (Tryz.prog.info? 181).map (·.size) = some 4 := by kernel_rfl
theorem assert1 (W : World) (cs : Array Value) : (Instr.typeAssert (.iface 190 (.agg cs)) 199 190 true).run Tryz.prog W = .ok (.tuple #[.agg cs, .bool true]) W := by kernel_rfl
theorem assert2 (W : World) (cs : Array Value) : (Instr.typeAssert (.iface 201 (.agg cs)) 199 190 true).run Tryz.prog W = .ok (.tuple #[.agg #[.int .i64 0], .bool false]) W := by kernel_rfl
theorem assert3 (W : World) (cs : Array Value) : (Instr.typeAssert (.iface 195 (.agg cs)) 199 190 true).run Tryz.prog W = .ok (.tuple #[.agg #[.int .i64 0], .bool false]) W := by kernel_rfl
theorem assert4 (W : World) (cs : Array Value) : (Instr.typeAssert (.iface 201 (.agg cs)) 199 201 true).run Tryz.prog W = .ok (.tuple #[.agg cs, .bool true]) W := by kernel_rfl
theorem assert5 (W : World) (cs : Array Value) : (Instr.typeAssert (.iface 195 (.agg cs)) 199 201 true).run Tryz.prog W = .ok (.tuple #[.agg #[.string ⟨#[]⟩], .bool false]) W := by kernel_rfl
theorem assert6 (W : World) (cs : Array Value) : (Instr.typeAssert (.iface 195 (.agg cs)) 199 195 false).run Tryz.prog W = .ok (.agg cs) W := by kernel_rfl

def zeroTerm : Array Value := #[.int .i64 0, .int .i64 0, .string ⟨#[]⟩, .slice none 0 0]
set_option maxRecDepth 100000 in
set_option maxHeartbeats 4000000 in
theorem of_none (w : World) (base t M : Nat) (T : List Node) (k : Nat) (hT : TableAt w base t M T k) (hlen : T.length ≤ 100000) (s : List UInt8) (hs : s.length ≤ 9223372036854775807) (hn : numOf T.length s = none) :
    Calls Tryz.prog 133 #[.pointer (some ⟨t, 0, none⟩), .string (bs s)] w fun e w' => e = .returned (.tuple #[.agg zeroTerm, .bool false]) ∧ Below w.heap.size w w' := by
  obtain ⟨w1, hw1⟩ : ∃ w1, w1 = w.alloc (.cells #[.int .i64 0, .int .i64 0, .string ⟨#[]⟩, .slice none 0 0] 181) := ⟨_, rfl⟩
  have b1 : Below w.heap.size w w1 := by rw [hw1]; exact (Below.refl _ _).alloc (Nat.le_refl _) _
  have hR1 : Blk w1 w.heap.size 181 #[.int .i64 0, .int .i64 0, .string ⟨#[]⟩, .slice none 0 0] := by rw [hw1]; exact Blk.new _ _ _
  have hT1 := hT.later b1
  have hnone := termNone_any w1 base t M T k hT1
  have hnum := termNumber_any w1 base t M T k hT1 hlen (bs s) (by rw [bs_size]; omega)
  rw [bs_list, show numI T.length s = -1 by unfold numI; rw [hn]] at hnum
  have HW1 : Hid (w1 = w.alloc (.cells #[.int .i64 0, .int .i64 0, .string ⟨#[]⟩, .slice none 0 0] 181)) := hw1
  clear hw1 hT hT1
  go_enter Tryz.func133, Tryz.ntmps133
  go_wp2_with fail
  rw [← HW1.out]
  refine hnone.mono ?_
  rintro e w' ⟨rfl, hw⟩
  rw [hw]
  clear hw w' hnone
  go_wp2_with fail
  refine hnum.mono ?_
  rintro e w2 ⟨rfl, b2⟩
  clear hnum
  have hR2 := hR1.later b2
  have R0 : w2.cell? ⟨w.heap.size, 0, none⟩ = some (.int .i64 0) := hR2.cell 0
  have R1 : w2.cell? ⟨w.heap.size, 1, none⟩ = some (.int .i64 0) := hR2.cell 1
  have R2 : w2.cell? ⟨w.heap.size, 2, none⟩ = some (.string ⟨#[]⟩) := hR2.cell 2
  have R3 : w2.cell? ⟨w.heap.size, 3, none⟩ = some (.slice none 0 0) := hR2.cell 3
  have FR0 : w2.frozen? ⟨w.heap.size, 0, none⟩ = false := hR2.frozen 0
  have FR1 : w2.frozen? ⟨w.heap.size, 1, none⟩ = false := hR2.frozen 1
  have FR2 : w2.frozen? ⟨w.heap.size, 2, none⟩ = false := hR2.frozen 2
  have FR3 : w2.frozen? ⟨w.heap.size, 3, none⟩ = false := hR2.frozen 3
  have B2 : Hid (Below w.heap.size w w2) := Below.step b1 b2
  clear b1 b2 hR1
  go_wp2_with fail
  have hR6 : Blk ((((w2.setCell ⟨w.heap.size, 0, none⟩ (.int .i64 0)).setCell ⟨w.heap.size, 1, none⟩ (.int .i64 0)).setCell ⟨w.heap.size, 2, none⟩ (.string ⟨#[]⟩)).setCell ⟨w.heap.size, 3, none⟩ (.slice none 0 0)) w.heap.size 181 zeroTerm := (((hR2.set_ 0 _).set_ 1 _).set_ 2 _).set_ 3 _
  refine bodyPost_ret (results_cell_row_tmp rfl _ _ w.heap.size 181 _ (0, 0) _ rfl hR6 Tryz.underlying181 rfl termInfo) rfl ?_
  exact ⟨rfl, (((B2.out.setCell (Nat.le_refl _) _).setCell (Nat.le_refl _) _).setCell (Nat.le_refl _) _).setCell (Nat.le_refl _) _⟩

set_option maxRecDepth 100000 in
set_option maxHeartbeats 4000000 in
theorem of_name (w : World) (base t M : Nat) (T : List Node) (k : Nat) (hT : TableAt w base t M T k) (hlen : T.length ≤ 100000) (s : List UInt8) (hs : s.length ≤ 9223372036854775807) (n : Nat) (hn : numOf T.length s = some n) (j : Nat) (hx : T[n]? = some (.name j)) :
    Calls Tryz.prog 133 #[.pointer (some ⟨t, 0, none⟩), .string (bs s)] w fun e w' => e = .returned (.tuple #[.agg #[.int .i64 1, .int .i64 (j : Int), .string ⟨#[]⟩, .slice none 0 0], .bool true]) ∧ Below w.heap.size w w' := by
  obtain ⟨w1, hw1⟩ : ∃ w1, w1 = w.alloc (.cells #[.int .i64 0, .int .i64 0, .string ⟨#[]⟩, .slice none 0 0] 181) := ⟨_, rfl⟩
  have b1 : Below w.heap.size w w1 := by rw [hw1]; exact (Below.refl _ _).alloc (Nat.le_refl _) _
  have hR1 : Blk w1 w.heap.size 181 #[.int .i64 0, .int .i64 0, .string ⟨#[]⟩, .slice none 0 0] := by rw [hw1]; exact Blk.new _ _ _
  have hT1 := hT.later b1
  have hnone := termNone_any w1 base t M T k hT1
  have hnum := termNumber_any w1 base t M T k hT1 hlen (bs s) (by rw [bs_size]; omega)
  rw [bs_list, show numI T.length s = (n : Int) by unfold numI; rw [hn]] at hnum
  have HW1 : Hid (w1 = w.alloc (.cells #[.int .i64 0, .int .i64 0, .string ⟨#[]⟩, .slice none 0 0] 181)) := hw1
  have hnl := numOf_lt hn
  clear hw1 hT hn
  go_enter Tryz.func133, Tryz.ntmps133
  go_wp2_with fail
  rw [← HW1.out]
  refine hnone.mono ?_
  rintro e w' ⟨rfl, hw⟩
  rw [hw]
  clear hw w' hnone
  go_wp2_with fail
  refine hnum.mono ?_
  rintro e w2 ⟨rfl, b2⟩
  clear hnum
  have hR2 := hR1.later b2
  have hT2 := hT1.later b2
  have B2 : Hid (Below w.heap.size w w2) := Below.step b1 b2
  clear b1 b2 hR1 hT1 HW1 w1
  obtain ⟨lv, xs, m, D, a1, a2, a3, a4, a5, a6, a7, a8⟩ := hT2
  obtain ⟨gl, cl, hlv, hcl, hlc⟩ := row_cell a2 (by omega)
  obtain ⟨v, hv, hve⟩ := a7 n _ hx
  subst hlv
  have C0 : w2.cell? ⟨t, 0, none⟩ = some (.slice (some ⟨gl, 0, none⟩) T.length cl) := a1.cell 0
  have C3 := hlc n v hv
  change v = .iface 190 (.agg #[.int .i64 (j : Int)]) at hve
  subst hve
  clear a1 a2 a3 a4 a5 a6 a7 a8 hlc hv
  have hta0 := fun W => assert1 W #[.int .i64 (j : Int)]
  have hR3 : Blk (w2.alloc (.cells #[.int .i64 (j : Int)] 190)) w.heap.size 181 #[.int .i64 0, .int .i64 0, .string ⟨#[]⟩, .slice none 0 0] := hR2.alloc _
  have b3 : Below w.heap.size w (w2.alloc (.cells #[.int .i64 (j : Int)] 190)) := B2.out.alloc B2.out.size _
  have hD : Blk (w2.alloc (.cells #[.int .i64 (j : Int)] 190)) w2.heap.size 190 #[.int .i64 (j : Int)] := Blk.new _ _ _
  obtain ⟨w3, hw3⟩ : ∃ w3, w3 = (w2.alloc (.cells #[.int .i64 (j : Int)] 190)) := ⟨_, rfl⟩
  have HW3 : Hid (w3 = (w2.alloc (.cells #[.int .i64 (j : Int)] 190))) := hw3
  have D0 : (w2.alloc (.cells #[.int .i64 (j : Int)] 190)).cell? ⟨w2.heap.size, 0, none⟩ = some (.int .i64 (j : Int)) := hD.cell 0
  have R0 : (w2.alloc (.cells #[.int .i64 (j : Int)] 190)).cell? ⟨w.heap.size, 0, none⟩ = some (.int .i64 0) := hR3.cell 0
  have R1 : (w2.alloc (.cells #[.int .i64 (j : Int)] 190)).cell? ⟨w.heap.size, 1, none⟩ = some (.int .i64 0) := hR3.cell 1
  have R2 : (w2.alloc (.cells #[.int .i64 (j : Int)] 190)).cell? ⟨w.heap.size, 2, none⟩ = some (.string ⟨#[]⟩) := hR3.cell 2
  have R3 : (w2.alloc (.cells #[.int .i64 (j : Int)] 190)).cell? ⟨w.heap.size, 3, none⟩ = some (.slice none 0 0) := hR3.cell 3
  have FR0 : (w2.alloc (.cells #[.int .i64 (j : Int)] 190)).frozen? ⟨w.heap.size, 0, none⟩ = false := hR3.frozen 0
  have FR1 : (w2.alloc (.cells #[.int .i64 (j : Int)] 190)).frozen? ⟨w.heap.size, 1, none⟩ = false := hR3.frozen 1
  have FR2 : (w2.alloc (.cells #[.int .i64 (j : Int)] 190)).frozen? ⟨w.heap.size, 2, none⟩ = false := hR3.frozen 2
  have FR3 : (w2.alloc (.cells #[.int .i64 (j : Int)] 190)).frozen? ⟨w.heap.size, 3, none⟩ = false := hR3.frozen 3
  go_wp2_with fail
  rw [← HW3.out]
  rw [← hw3] at hR3 b3
  have hR6 : Blk ((((w3.setCell ⟨w.heap.size, 0, none⟩ (.int .i64 1)).setCell ⟨w.heap.size, 1, none⟩ (.int .i64 (j : Int))).setCell ⟨w.heap.size, 2, none⟩ (.string ⟨#[]⟩)).setCell ⟨w.heap.size, 3, none⟩ (.slice none 0 0)) w.heap.size 181 #[.int .i64 1, .int .i64 (j : Int), .string ⟨#[]⟩, .slice none 0 0] := (((hR3.set_ 0 _).set_ 1 _).set_ 2 _).set_ 3 _
  refine bodyPost_ret (results_cell_row_tmp rfl _ _ w.heap.size 181 _ (0, 0) _ rfl hR6 Tryz.underlying181 rfl termInfo) rfl ?_
  exact ⟨rfl, (((b3.setCell (Nat.le_refl _) _).setCell (Nat.le_refl _) _).setCell (Nat.le_refl _) _).setCell (Nat.le_refl _) _⟩

set_option maxRecDepth 100000 in
set_option maxHeartbeats 4000000 in
theorem of_data (w : World) (base t M : Nat) (T : List Node) (k : Nat) (hT : TableAt w base t M T k) (hlen : T.length ≤ 100000) (s : List UInt8) (hs : s.length ≤ 9223372036854775807) (n : Nat) (hn : numOf T.length s = some n) (d : List UInt8) (hx : T[n]? = some (.data d)) :
    Calls Tryz.prog 133 #[.pointer (some ⟨t, 0, none⟩), .string (bs s)] w fun e w' => e = .returned (.tuple #[.agg #[.int .i64 2, .int .i64 0, .string (bs d), .slice none 0 0], .bool true]) ∧ Below w.heap.size w w' := by
  obtain ⟨w1, hw1⟩ : ∃ w1, w1 = w.alloc (.cells #[.int .i64 0, .int .i64 0, .string ⟨#[]⟩, .slice none 0 0] 181) := ⟨_, rfl⟩
  have b1 : Below w.heap.size w w1 := by rw [hw1]; exact (Below.refl _ _).alloc (Nat.le_refl _) _
  have hR1 : Blk w1 w.heap.size 181 #[.int .i64 0, .int .i64 0, .string ⟨#[]⟩, .slice none 0 0] := by rw [hw1]; exact Blk.new _ _ _
  have hT1 := hT.later b1
  have hnone := termNone_any w1 base t M T k hT1
  have hnum := termNumber_any w1 base t M T k hT1 hlen (bs s) (by rw [bs_size]; omega)
  rw [bs_list, show numI T.length s = (n : Int) by unfold numI; rw [hn]] at hnum
  have HW1 : Hid (w1 = w.alloc (.cells #[.int .i64 0, .int .i64 0, .string ⟨#[]⟩, .slice none 0 0] 181)) := hw1
  have hnl := numOf_lt hn
  clear hw1 hT hn
  go_enter Tryz.func133, Tryz.ntmps133
  go_wp2_with fail
  rw [← HW1.out]
  refine hnone.mono ?_
  rintro e w' ⟨rfl, hw⟩
  rw [hw]
  clear hw w' hnone
  go_wp2_with fail
  refine hnum.mono ?_
  rintro e w2 ⟨rfl, b2⟩
  clear hnum
  have hR2 := hR1.later b2
  have hT2 := hT1.later b2
  have B2 : Hid (Below w.heap.size w w2) := Below.step b1 b2
  clear b1 b2 hR1 hT1 HW1 w1
  obtain ⟨lv, xs, m, D, a1, a2, a3, a4, a5, a6, a7, a8⟩ := hT2
  obtain ⟨gl, cl, hlv, hcl, hlc⟩ := row_cell a2 (by omega)
  obtain ⟨v, hv, hve⟩ := a7 n _ hx
  subst hlv
  have C0 : w2.cell? ⟨t, 0, none⟩ = some (.slice (some ⟨gl, 0, none⟩) T.length cl) := a1.cell 0
  have C3 := hlc n v hv
  change v = .iface 201 (.agg #[.string (bs d)]) at hve
  subst hve
  clear a1 a2 a3 a4 a5 a6 a7 a8 hlc hv
  have hta0 := fun W => assert2 W #[.string (bs d)]
  have hta1 := fun W => assert4 W #[.string (bs d)]
  have hR3 : Blk (w2.alloc (.cells #[.string (bs d)] 201)) w.heap.size 181 #[.int .i64 0, .int .i64 0, .string ⟨#[]⟩, .slice none 0 0] := hR2.alloc _
  have b3 : Below w.heap.size w (w2.alloc (.cells #[.string (bs d)] 201)) := B2.out.alloc B2.out.size _
  have hD : Blk (w2.alloc (.cells #[.string (bs d)] 201)) w2.heap.size 201 #[.string (bs d)] := Blk.new _ _ _
  obtain ⟨w3, hw3⟩ : ∃ w3, w3 = (w2.alloc (.cells #[.string (bs d)] 201)) := ⟨_, rfl⟩
  have HW3 : Hid (w3 = (w2.alloc (.cells #[.string (bs d)] 201))) := hw3
  have D0 : (w2.alloc (.cells #[.string (bs d)] 201)).cell? ⟨w2.heap.size, 0, none⟩ = some (.string (bs d)) := hD.cell 0
  have R0 : (w2.alloc (.cells #[.string (bs d)] 201)).cell? ⟨w.heap.size, 0, none⟩ = some (.int .i64 0) := hR3.cell 0
  have R1 : (w2.alloc (.cells #[.string (bs d)] 201)).cell? ⟨w.heap.size, 1, none⟩ = some (.int .i64 0) := hR3.cell 1
  have R2 : (w2.alloc (.cells #[.string (bs d)] 201)).cell? ⟨w.heap.size, 2, none⟩ = some (.string ⟨#[]⟩) := hR3.cell 2
  have R3 : (w2.alloc (.cells #[.string (bs d)] 201)).cell? ⟨w.heap.size, 3, none⟩ = some (.slice none 0 0) := hR3.cell 3
  have FR0 : (w2.alloc (.cells #[.string (bs d)] 201)).frozen? ⟨w.heap.size, 0, none⟩ = false := hR3.frozen 0
  have FR1 : (w2.alloc (.cells #[.string (bs d)] 201)).frozen? ⟨w.heap.size, 1, none⟩ = false := hR3.frozen 1
  have FR2 : (w2.alloc (.cells #[.string (bs d)] 201)).frozen? ⟨w.heap.size, 2, none⟩ = false := hR3.frozen 2
  have FR3 : (w2.alloc (.cells #[.string (bs d)] 201)).frozen? ⟨w.heap.size, 3, none⟩ = false := hR3.frozen 3
  go_wp2_with fail
  rw [← HW3.out]
  rw [← hw3] at hR3 b3
  have hR6 : Blk ((((w3.setCell ⟨w.heap.size, 0, none⟩ (.int .i64 2)).setCell ⟨w.heap.size, 1, none⟩ (.int .i64 0)).setCell ⟨w.heap.size, 2, none⟩ (.string (bs d))).setCell ⟨w.heap.size, 3, none⟩ (.slice none 0 0)) w.heap.size 181 #[.int .i64 2, .int .i64 0, .string (bs d), .slice none 0 0] := (((hR3.set_ 0 _).set_ 1 _).set_ 2 _).set_ 3 _
  refine bodyPost_ret (results_cell_row_tmp rfl _ _ w.heap.size 181 _ (0, 0) _ rfl hR6 Tryz.underlying181 rfl termInfo) rfl ?_
  exact ⟨rfl, (((b3.setCell (Nat.le_refl _) _).setCell (Nat.le_refl _) _).setCell (Nat.le_refl _) _).setCell (Nat.le_refl _) _⟩

set_option maxRecDepth 100000 in
set_option maxHeartbeats 4000000 in
theorem of_made (w : World) (base t M : Nat) (T : List Node) (k : Nat) (hT : TableAt w base t M T k) (hlen : T.length ≤ 100000) (s : List UInt8) (hs : s.length ≤ 9223372036854775807) (n : Nat) (hn : numOf T.length s = some n) (kd nd : Nat) (l : List UInt8) (ps : List Nat) (hps : 0 < ps.length) (hx : T[n]? = some (.made kd nd l ps)) :
    Calls Tryz.prog 133 #[.pointer (some ⟨t, 0, none⟩), .string (bs s)] w fun e w' => (∃ pv', e = .returned (.tuple #[.agg #[.int .i64 (kd : Int), .int .i64 (nd : Int), .string (bs l), pv'], .bool true]) ∧ w'.ownsRow w.heap.size 3 1 pv' ps.length (intL ps)) ∧ Below w.heap.size w w' := by
  obtain ⟨w1, hw1⟩ : ∃ w1, w1 = w.alloc (.cells #[.int .i64 0, .int .i64 0, .string ⟨#[]⟩, .slice none 0 0] 181) := ⟨_, rfl⟩
  have b1 : Below w.heap.size w w1 := by rw [hw1]; exact (Below.refl _ _).alloc (Nat.le_refl _) _
  have hR1 : Blk w1 w.heap.size 181 #[.int .i64 0, .int .i64 0, .string ⟨#[]⟩, .slice none 0 0] := by rw [hw1]; exact Blk.new _ _ _
  have hT1 := hT.later b1
  have hnone := termNone_any w1 base t M T k hT1
  have hnum := termNumber_any w1 base t M T k hT1 hlen (bs s) (by rw [bs_size]; omega)
  rw [bs_list, show numI T.length s = (n : Int) by unfold numI; rw [hn]] at hnum
  have HW1 : Hid (w1 = w.alloc (.cells #[.int .i64 0, .int .i64 0, .string ⟨#[]⟩, .slice none 0 0] 181)) := hw1
  have hnl := numOf_lt hn
  clear hw1 hT hn
  go_enter Tryz.func133, Tryz.ntmps133
  go_wp2_with fail
  rw [← HW1.out]
  refine hnone.mono ?_
  rintro e w' ⟨rfl, hw⟩
  rw [hw]
  clear hw w' hnone
  go_wp2_with fail
  refine hnum.mono ?_
  rintro e w2 ⟨rfl, b2⟩
  clear hnum
  have hR2 := hR1.later b2
  have hT2 := hT1.later b2
  have B2 : Hid (Below w.heap.size w w2) := Below.step b1 b2
  clear b1 b2 hR1 hT1 HW1 w1
  obtain ⟨lv, xs, m, D, a1, a2, a3, a4, a5, a6, a7, a8⟩ := hT2
  obtain ⟨gl, cl, hlv, hcl, hlc⟩ := row_cell a2 (by omega)
  obtain ⟨v, hv, hve⟩ := a7 n _ hx
  subst hlv
  have C0 : w2.cell? ⟨t, 0, none⟩ = some (.slice (some ⟨gl, 0, none⟩) T.length cl) := a1.cell 0
  have C3 := hlc n v hv
  obtain ⟨pv, hve, hpo, _⟩ := hve
  obtain ⟨gp, cp, hpv, hcp, hpc⟩ := row_cell hpo hps
  subst hpv
  subst hve
  have hgp : gp < w2.heap.size := (hpo.lt gp rfl).2
  have hpl := (a8 _ (List.mem_of_getElem? hx)).2.2.2.1
  clear a1 a2 a3 a4 a5 a6 a7 a8 hlc hv
  have hta0 := fun W => assert3 W #[.int .i64 (kd : Int), .int .i64 (nd : Int), .string (bs l), .slice (some ⟨gp, 0, none⟩) ps.length cp]
  have hta1 := fun W => assert5 W #[.int .i64 (kd : Int), .int .i64 (nd : Int), .string (bs l), .slice (some ⟨gp, 0, none⟩) ps.length cp]
  have hta2 := fun W => assert6 W #[.int .i64 (kd : Int), .int .i64 (nd : Int), .string (bs l), .slice (some ⟨gp, 0, none⟩) ps.length cp]
  have C0' : (w2.alloc (.cells #[.int .i64 (kd : Int), .int .i64 (nd : Int), .string (bs l), .slice (some ⟨gp, 0, none⟩) ps.length cp] 195)).cell? ⟨t, 0, none⟩ = some (.slice (some ⟨gl, 0, none⟩) T.length cl) := Below.cell_some ((Below.refl _ _).alloc (Nat.le_refl _) _) C0
  have hR3 : Blk (w2.alloc (.cells #[.int .i64 (kd : Int), .int .i64 (nd : Int), .string (bs l), .slice (some ⟨gp, 0, none⟩) ps.length cp] 195)) w.heap.size 181 #[.int .i64 0, .int .i64 0, .string ⟨#[]⟩, .slice none 0 0] := hR2.alloc _
  have b3 : Below w.heap.size w (w2.alloc (.cells #[.int .i64 (kd : Int), .int .i64 (nd : Int), .string (bs l), .slice (some ⟨gp, 0, none⟩) ps.length cp] 195)) := B2.out.alloc B2.out.size _
  have hD : Blk (w2.alloc (.cells #[.int .i64 (kd : Int), .int .i64 (nd : Int), .string (bs l), .slice (some ⟨gp, 0, none⟩) ps.length cp] 195)) w2.heap.size 195 #[.int .i64 (kd : Int), .int .i64 (nd : Int), .string (bs l), .slice (some ⟨gp, 0, none⟩) ps.length cp] := Blk.new _ _ _
  have hpo3 : (w2.alloc (.cells #[.int .i64 (kd : Int), .int .i64 (nd : Int), .string (bs l), .slice (some ⟨gp, 0, none⟩) ps.length cp] 195)).ownsRow base 3 1 (.slice (some ⟨gp, 0, none⟩) ps.length cp) ps.length (intL ps) := hpo.alloc _
  obtain ⟨w3, hw3⟩ : ∃ w3, w3 = (w2.alloc (.cells #[.int .i64 (kd : Int), .int .i64 (nd : Int), .string (bs l), .slice (some ⟨gp, 0, none⟩) ps.length cp] 195)) := ⟨_, rfl⟩
  have HW3 : Hid (w3 = (w2.alloc (.cells #[.int .i64 (kd : Int), .int .i64 (nd : Int), .string (bs l), .slice (some ⟨gp, 0, none⟩) ps.length cp] 195))) := hw3
  go_wp2_with fail
  rw [← HW3.out]
  rw [← hw3] at hR3 b3 hD hpo3
  clear hw3 HW3 hta0 hta1 hta2 C0 C0' C3
  have Z0 : w3.drew.cell? ⟨w2.heap.size, 0, none⟩ = some (.int .i64 (kd : Int)) := hD.cell 0
  have Z1 : w3.drew.cell? ⟨w2.heap.size, 1, none⟩ = some (.int .i64 (nd : Int)) := hD.cell 1
  have Z2 : w3.drew.cell? ⟨w2.heap.size, 2, none⟩ = some (.string (bs l)) := hD.cell 2
  have Z3 : w3.drew.cell? ⟨w2.heap.size, 3, none⟩ = some (.slice (some ⟨gp, 0, none⟩) ps.length cp) := hD.cell 3
  obtain ⟨zs, hzs⟩ : ∃ zs : List Int, zs = ps.map fun (p : Nat) => (p : Int) := ⟨_, rfl⟩
  have hzl : ps.length ≤ zs.length := by rw [hzs]; simp
  have hpc3 := hpo3.cells (g := gp) rfl
  have hcl := Tryz.slices_Clone_int gp 0 ps.length cp zs w3.drew hzl (by omega) (fun j hj => by
    have hjl : j < ps.length := by rw [hzs] at hj; simpa using hj
    have h := hpc3 j (.int .i64 (ps[j] : Nat)) (by simp [intL, hjl])
    rw [addr_add, Nat.zero_add] at h
    show w3.cell? ⟨gp, 0 + j, none⟩ = _
    rw [Nat.zero_add, h, hzs]
    simp [hjl])
  have htk : (zs.take ps.length).map (Value.int .i64) = intL ps := by rw [List.take_of_length_le (by rw [hzs]; simp), hzs, intL, List.map_map]; rfl
  rw [htk] at hcl
  have hne : w2.heap.size ≠ w.heap.size := by have := hR2.lt; omega
  clear hpc3 hpo3 hpc hpo htk hzl hzs
  go_region_held3 (fun w' => w'.cell? ⟨w2.heap.size, 0, none⟩ = some (.int .i64 (kd : Int)) ∧ w'.cell? ⟨w2.heap.size, 1, none⟩ = some (.int .i64 (nd : Int)) ∧ w'.cell? ⟨w2.heap.size, 2, none⟩ = some (.string (bs l)) ∧ w'.cell? ⟨w2.heap.size, 3, none⟩ = some (.slice (some ⟨gp, 0, none⟩) ps.length cp)) (first | exact ⟨V0, V1, V2, V3⟩ | exact ⟨Y0, Y1, Y2, Y3⟩ | exact ⟨Z0, Z1, Z2, Z3⟩)
    (first | (go_at_call 146; refine hcl.mono ?_; rintro e w4 ⟨v', rfl, hv', hnn, b4⟩; obtain ⟨A4, c4, e4⟩ := ownsRow_slice hv'; subst e4; have hD4 : Blk w4 w2.heap.size 195 _ := hD.drew.later b4; have hD5 : Blk ((((w4.setCell ⟨w.heap.size, 0, none⟩ (.int .i64 (kd : Int))).setCell ⟨w.heap.size, 1, none⟩ (.int .i64 (nd : Int))).setCell ⟨w.heap.size, 2, none⟩ (.string (bs l))).setCell ⟨w.heap.size, 3, none⟩ (.slice A4 ps.length c4)) w2.heap.size 195 _ := (((hD4.far hne _).far hne _).far hne _).far hne _; have V0 : ((((w4.setCell ⟨w.heap.size, 0, none⟩ (.int .i64 (kd : Int))).setCell ⟨w.heap.size, 1, none⟩ (.int .i64 (nd : Int))).setCell ⟨w.heap.size, 2, none⟩ (.string (bs l))).setCell ⟨w.heap.size, 3, none⟩ (.slice A4 ps.length c4)).cell? ⟨w2.heap.size, 0, none⟩ = some (.int .i64 (kd : Int)) := hD5.cell 0; have V1 : ((((w4.setCell ⟨w.heap.size, 0, none⟩ (.int .i64 (kd : Int))).setCell ⟨w.heap.size, 1, none⟩ (.int .i64 (nd : Int))).setCell ⟨w.heap.size, 2, none⟩ (.string (bs l))).setCell ⟨w.heap.size, 3, none⟩ (.slice A4 ps.length c4)).cell? ⟨w2.heap.size, 1, none⟩ = some (.int .i64 (nd : Int)) := hD5.cell 1; have V2 : ((((w4.setCell ⟨w.heap.size, 0, none⟩ (.int .i64 (kd : Int))).setCell ⟨w.heap.size, 1, none⟩ (.int .i64 (nd : Int))).setCell ⟨w.heap.size, 2, none⟩ (.string (bs l))).setCell ⟨w.heap.size, 3, none⟩ (.slice A4 ps.length c4)).cell? ⟨w2.heap.size, 2, none⟩ = some (.string (bs l)) := hD5.cell 2; have V3 : ((((w4.setCell ⟨w.heap.size, 0, none⟩ (.int .i64 (kd : Int))).setCell ⟨w.heap.size, 1, none⟩ (.int .i64 (nd : Int))).setCell ⟨w.heap.size, 2, none⟩ (.string (bs l))).setCell ⟨w.heap.size, 3, none⟩ (.slice A4 ps.length c4)).cell? ⟨w2.heap.size, 3, none⟩ = some (.slice (some ⟨gp, 0, none⟩) ps.length cp) := hD5.cell 3; have hR4 : Blk w4 w.heap.size 181 #[.int .i64 0, .int .i64 0, .string ⟨#[]⟩, .slice none 0 0] := hR3.drew.later b4; have R0 : w4.cell? ⟨w.heap.size, 0, none⟩ = some (.int .i64 0) := hR4.cell 0; have R1 : w4.cell? ⟨w.heap.size, 1, none⟩ = some (.int .i64 0) := hR4.cell 1; have R2 : w4.cell? ⟨w.heap.size, 2, none⟩ = some (.string ⟨#[]⟩) := hR4.cell 2; have R3 : w4.cell? ⟨w.heap.size, 3, none⟩ = some (.slice none 0 0) := hR4.cell 3; have FR0 : w4.frozen? ⟨w.heap.size, 0, none⟩ = false := hR4.frozen 0; have FR1 : w4.frozen? ⟨w.heap.size, 1, none⟩ = false := hR4.frozen 1; have FR2 : w4.frozen? ⟨w.heap.size, 2, none⟩ = false := hR4.frozen 2; have FR3 : w4.frozen? ⟨w.heap.size, 3, none⟩ = false := hR4.frozen 3; have Y0 : w4.cell? ⟨w2.heap.size, 0, none⟩ = some (.int .i64 (kd : Int)) := Below.cell_some b4 Z0; have Y1 : w4.cell? ⟨w2.heap.size, 1, none⟩ = some (.int .i64 (nd : Int)) := Below.cell_some b4 Z1; have Y2 : w4.cell? ⟨w2.heap.size, 2, none⟩ = some (.string (bs l)) := Below.cell_some b4 Z2; have Y3 : w4.cell? ⟨w2.heap.size, 3, none⟩ = some (.slice (some ⟨gp, 0, none⟩) ps.length cp) := Below.cell_some b4 Z3))
  all_goals (
    clear V0 V1 V2 V3 Y0 Y1 Y2 Y3 hD5 hD4 R0 R1 R2 R3 FR0 FR1 FR2 FR3
    go_wp2
    have hR6 : Blk ((((w4.setCell ⟨w.heap.size, 0, none⟩ (.int .i64 (kd : Int))).setCell ⟨w.heap.size, 1, none⟩ (.int .i64 (nd : Int))).setCell ⟨w.heap.size, 2, none⟩ (.string (bs l))).setCell ⟨w.heap.size, 3, none⟩ (.slice A4 ps.length c4)) w.heap.size 181 #[.int .i64 (kd : Int), .int .i64 (nd : Int), .string (bs l), .slice A4 ps.length c4] := (((hR4.set_ 0 _).set_ 1 _).set_ 2 _).set_ 3 _
    have hne4 : (Value.slice A4 ps.length c4).ownBlock ≠ some w.heap.size := own_blk_ne hv' hR4 (by decide)
    have hv6 : ((((w4.setCell ⟨w.heap.size, 0, none⟩ (.int .i64 (kd : Int))).setCell ⟨w.heap.size, 1, none⟩ (.int .i64 (nd : Int))).setCell ⟨w.heap.size, 2, none⟩ (.string (bs l))).setCell ⟨w.heap.size, 3, none⟩ (.slice A4 ps.length c4)).ownsRow w3.drew.heap.size 3 1 (.slice A4 ps.length c4) ps.length (intL ps) := hv'.kept (grownBy_set (grownBy_set (grownBy_set (grownBy_set (grownBy_refl w4 (some w.heap.size)) _) _) _) _) (.inr hne4)
    have b6 : Below w.heap.size w w4 := (show Below w.heap.size w w3.drew from ⟨b3.os, b3.tape, b3.output, b3.size, b3.block⟩).trans (b4.mono b3.size)
    refine bodyPost_ret (results_cell_row_tmp rfl _ _ w.heap.size 181 _ (0, 0) _ rfl hR6 Tryz.underlying181 rfl termInfo) rfl ?_
    exact ⟨⟨_, rfl, ownsRow_base hv6 b3.size⟩, (((b6.setCell (Nat.le_refl _) _).setCell (Nat.le_refl _) _).setCell (Nat.le_refl _) _).setCell (Nat.le_refl _) _⟩)

end Go.Proofs.YtipehnojibdfeaaGreat
