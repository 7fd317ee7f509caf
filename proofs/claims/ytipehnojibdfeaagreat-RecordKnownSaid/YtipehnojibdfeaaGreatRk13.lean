/- Parts of the proof, as they were built: Term10, Sym1, Sym2, Sym3. -/
import Derived.Test.YtipehnojibdfeaaGreatRk12
import Derived.Laws.ResultCell
import Derived.Deep.RegionHeld3

/- the table of terms: Of. -/
namespace Go.Proofs.YtipehnojibdfeaaGreat
open Go Go.Proofs Go.RowKit

theorem results_cell_row_tmp {P : Program} {fn : Func} {p u : Tmp} {ty : TypeId} (h : fn.results = #[.cell p ty, .tmp u]) (tmps : Array Value) (w : World) (g : Nat) (t : TypeId) (cs : Array Value) (fr : Nat × Nat) (d : TypeDesc)
    (hp : tmps.getD p undef = .pointer (some ⟨g, 0, none⟩)) (hg : w.heap[g]? = some (.cells cs t fr))
    (hu : P.underlying ty = some d) (hd : (match d with | .struct _ | .array _ _ => true | _ => false) = true) (hi : (P.info? ty).map (·.size) = some cs.size) :
    (results fn tmps).run P w = .ok (.tuple #[.agg cs, tmps.getD u undef]) w := by
  have hp' : tmps[p]?.getD undef = .pointer (some ⟨g, 0, none⟩) := by simpa using hp
  rw [results_cell_tmp h]
  simp [hp', asAddr, run_loadVar_row w g t ty cs fr d hg hu hd hi, Result.andThen]
theorem termInfo : (Tryz.prog.info? 181).map (·.size) = some 4 := by kernel_rfl
theorem assert1 (W : World) (cs : Array Value) : (Instr.typeAssert (.iface 190 (.agg cs)) 199 190 true).run Tryz.prog W = .ok (.tuple #[.agg cs, .bool true]) W := by kernel_rfl
theorem assert2 (W : World) (cs : Array Value) : (Instr.typeAssert (.iface 201 (.agg cs)) 199 190 true).run Tryz.prog W = .ok (.tuple #[.agg #[.int .i64 0], .bool false]) W := by kernel_rfl
theorem assert3 (W : World) (cs : Array Value) : (Instr.typeAssert (.iface 195 (.agg cs)) 199 190 true).run Tryz.prog W = .ok (.tuple #[.agg #[.int .i64 0], .bool false]) W := by kernel_rfl
theorem assert4 (W : World) (cs : Array Value) : (Instr.typeAssert (.iface 201 (.agg cs)) 199 201 true).run Tryz.prog W = .ok (.tuple #[.agg cs, .bool true]) W := by kernel_rfl
theorem assert5 (W : World) (cs : Array Value) : (Instr.typeAssert (.iface 195 (.agg cs)) 199 201 true).run Tryz.prog W = .ok (.tuple #[.agg #[.string ⟨#[]⟩], .bool false]) W := by kernel_rfl
theorem assert6 (W : World) (cs : Array Value) : (Instr.typeAssert (.iface 195 (.agg cs)) 199 195 false).run Tryz.prog W = .ok (.agg cs) W := by kernel_rfl

def zeroTerm : Array Value := #[.int .i64 0, .int .i64 0, .string ⟨#[]⟩, .slice none 0 0]
set_option maxRecDepth 100000 in
set_option maxHeartbeats 4000000 in
theorem of_none (w : World) (base t M : Nat) (T : List Node) (k : Nat) (hT : TableAt w base t M T k) (hlen : T.length ≤ 100000) (s : List UInt8) (hs : s.length ≤ 9223372036854775807) (hn : numOf T.length s = none) :
    Calls Tryz.prog 133 #[.pointer (some ⟨t, 0, none⟩), .string (bs s)] w fun e w' => e = .returned (.tuple #[.agg zeroTerm, .bool false]) ∧ Below w.heap.size w w' := by
  obtain ⟨w1, hw1⟩ : ∃ w1, w1 = w.alloc (.cells #[.int .i64 0, .int .i64 0, .string ⟨#[]⟩, .slice none 0 0] 181) := ⟨_, rfl⟩
  have b1 : Below w.heap.size w w1 := by rw [hw1]; exact (Below.refl _ _).alloc (Nat.le_refl _) _
  have hR1 : Blk w1 w.heap.size 181 #[.int .i64 0, .int .i64 0, .string ⟨#[]⟩, .slice none 0 0] := by rw [hw1]; exact Blk.new _ _ _
  have hT1 := hT.later b1
  have hnone := termNone_any w1 base t M T k hT1
  have hnum := termNumber_any w1 base t M T k hT1 hlen (bs s) (by rw [bs_size]; omega)
  rw [bs_list, show numI T.length s = -1 by unfold numI; rw [hn]] at hnum
  have HW1 : Hid (w1 = w.alloc (.cells #[.int .i64 0, .int .i64 0, .string ⟨#[]⟩, .slice none 0 0] 181)) := hw1
  clear hw1 hT hT1
  go_enter Tryz.func133, Tryz.ntmps133
  go_wp2_with fail
  rw [← HW1.out]
  refine hnone.mono ?_
  rintro e w' ⟨rfl, hw⟩
  rw [hw]
  clear hw w' hnone
  go_wp2_with fail
  refine hnum.mono ?_
  rintro e w2 ⟨rfl, b2⟩
  clear hnum
  have hR2 := hR1.later b2
  have R0 : w2.cell? ⟨w.heap.size, 0, none⟩ = some (.int .i64 0) := hR2.cell 0
  have R1 : w2.cell? ⟨w.heap.size, 1, none⟩ = some (.int .i64 0) := hR2.cell 1
  have R2 : w2.cell? ⟨w.heap.size, 2, none⟩ = some (.string ⟨#[]⟩) := hR2.cell 2
  have R3 : w2.cell? ⟨w.heap.size, 3, none⟩ = some (.slice none 0 0) := hR2.cell 3
  have FR0 : w2.frozen? ⟨w.heap.size, 0, none⟩ = false := hR2.frozen 0
  have FR1 : w2.frozen? ⟨w.heap.size, 1, none⟩ = false := hR2.frozen 1
  have FR2 : w2.frozen? ⟨w.heap.size, 2, none⟩ = false := hR2.frozen 2
  have FR3 : w2.frozen? ⟨w.heap.size, 3, none⟩ = false := hR2.frozen 3
  have B2 : Hid (Below w.heap.size w w2) := Below.step b1 b2
  clear b1 b2 hR1
  go_wp2_with fail
  have hR6 : Blk ((((w2.setCell ⟨w.heap.size, 0, none⟩ (.int .i64 0)).setCell ⟨w.heap.size, 1, none⟩ (.int .i64 0)).setCell ⟨w.heap.size, 2, none⟩ (.string ⟨#[]⟩)).setCell ⟨w.heap.size, 3, none⟩ (.slice none 0 0)) w.heap.size 181 zeroTerm := (((hR2.set_ 0 _).set_ 1 _).set_ 2 _).set_ 3 _
  refine bodyPost_ret (results_cell_row_tmp rfl _ _ w.heap.size 181 _ (0, 0) _ rfl hR6 Tryz.underlying181 rfl termInfo) rfl ?_
  exact ⟨rfl, (((B2.out.setCell (Nat.le_refl _) _).setCell (Nat.le_refl _) _).setCell (Nat.le_refl _) _).setCell (Nat.le_refl _) _⟩

set_option maxRecDepth 100000 in
set_option maxHeartbeats 4000000 in
theorem of_name (w : World) (base t M : Nat) (T : List Node) (k : Nat) (hT : TableAt w base t M T k) (hlen : T.length ≤ 100000) (s : List UInt8) (hs : s.length ≤ 9223372036854775807) (n : Nat) (hn : numOf T.length s = some n) (j : Nat) (hx : T[n]? = some (.name j)) :
    Calls Tryz.prog 133 #[.pointer (some ⟨t, 0, none⟩), .string (bs s)] w fun e w' => e = .returned (.tuple #[.agg #[.int .i64 1, .int .i64 (j : Int), .string ⟨#[]⟩, .slice none 0 0], .bool true]) ∧ Below w.heap.size w w' := by
  obtain ⟨w1, hw1⟩ : ∃ w1, w1 = w.alloc (.cells #[.int .i64 0, .int .i64 0, .string ⟨#[]⟩, .slice none 0 0] 181) := ⟨_, rfl⟩
  have b1 : Below w.heap.size w w1 := by rw [hw1]; exact (Below.refl _ _).alloc (Nat.le_refl _) _
  have hR1 : Blk w1 w.heap.size 181 #[.int .i64 0, .int .i64 0, .string ⟨#[]⟩, .slice none 0 0] := by rw [hw1]; exact Blk.new _ _ _
  have hT1 := hT.later b1
  have hnone := termNone_any w1 base t M T k hT1
  have hnum := termNumber_any w1 base t M T k hT1 hlen (bs s) (by rw [bs_size]; omega)
  rw [bs_list, show numI T.length s = (n : Int) by unfold numI; rw [hn]] at hnum
  have HW1 : Hid (w1 = w.alloc (.cells #[.int .i64 0, .int .i64 0, .string ⟨#[]⟩, .slice none 0 0] 181)) := hw1
  have hnl := numOf_lt hn
  clear hw1 hT hn
  go_enter Tryz.func133, Tryz.ntmps133
  go_wp2_with fail
  rw [← HW1.out]
  refine hnone.mono ?_
  rintro e w' ⟨rfl, hw⟩
  rw [hw]
  clear hw w' hnone
  go_wp2_with fail
  refine hnum.mono ?_
  rintro e w2 ⟨rfl, b2⟩
  clear hnum
  have hR2 := hR1.later b2
  have hT2 := hT1.later b2
  have B2 : Hid (Below w.heap.size w w2) := Below.step b1 b2
  clear b1 b2 hR1 hT1 HW1 w1
  obtain ⟨lv, xs, m, D, a1, a2, a3, a4, a5, a6, a7, a8⟩ := hT2
  obtain ⟨gl, cl, hlv, hcl, hlc⟩ := row_cell a2 (by omega)
  obtain ⟨v, hv, hve⟩ := a7 n _ hx
  subst hlv
  have C0 : w2.cell? ⟨t, 0, none⟩ = some (.slice (some ⟨gl, 0, none⟩) T.length cl) := a1.cell 0
  have C3 := hlc n v hv
  change v = .iface 190 (.agg #[.int .i64 (j : Int)]) at hve
  subst hve
  clear a1 a2 a3 a4 a5 a6 a7 a8 hlc hv
  have hta0 := fun W => assert1 W #[.int .i64 (j : Int)]
  have hR3 : Blk (w2.alloc (.cells #[.int .i64 (j : Int)] 190)) w.heap.size 181 #[.int .i64 0, .int .i64 0, .string ⟨#[]⟩, .slice none 0 0] := hR2.alloc _
  have b3 : Below w.heap.size w (w2.alloc (.cells #[.int .i64 (j : Int)] 190)) := B2.out.alloc B2.out.size _
  have hD : Blk (w2.alloc (.cells #[.int .i64 (j : Int)] 190)) w2.heap.size 190 #[.int .i64 (j : Int)] := Blk.new _ _ _
  obtain ⟨w3, hw3⟩ : ∃ w3, w3 = (w2.alloc (.cells #[.int .i64 (j : Int)] 190)) := ⟨_, rfl⟩
  have HW3 : Hid (w3 = (w2.alloc (.cells #[.int .i64 (j : Int)] 190))) := hw3
  have D0 : (w2.alloc (.cells #[.int .i64 (j : Int)] 190)).cell? ⟨w2.heap.size, 0, none⟩ = some (.int .i64 (j : Int)) := hD.cell 0
  have R0 : (w2.alloc (.cells #[.int .i64 (j : Int)] 190)).cell? ⟨w.heap.size, 0, none⟩ = some (.int .i64 0) := hR3.cell 0
  have R1 : (w2.alloc (.cells #[.int .i64 (j : Int)] 190)).cell? ⟨w.heap.size, 1, none⟩ = some (.int .i64 0) := hR3.cell 1
  have R2 : (w2.alloc (.cells #[.int .i64 (j : Int)] 190)).cell? ⟨w.heap.size, 2, none⟩ = some (.string ⟨#[]⟩) := hR3.cell 2
  have R3 : (w2.alloc (.cells #[.int .i64 (j : Int)] 190)).cell? ⟨w.heap.size, 3, none⟩ = some (.slice none 0 0) := hR3.cell 3
  have FR0 : (w2.alloc (.cells #[.int .i64 (j : Int)] 190)).frozen? ⟨w.heap.size, 0, none⟩ = false := hR3.frozen 0
  have FR1 : (w2.alloc (.cells #[.int .i64 (j : Int)] 190)).frozen? ⟨w.heap.size, 1, none⟩ = false := hR3.frozen 1
  have FR2 : (w2.alloc (.cells #[.int .i64 (j : Int)] 190)).frozen? ⟨w.heap.size, 2, none⟩ = false := hR3.frozen 2
  have FR3 : (w2.alloc (.cells #[.int .i64 (j : Int)] 190)).frozen? ⟨w.heap.size, 3, none⟩ = false := hR3.frozen 3
  go_wp2_with fail
  rw [← HW3.out]
  rw [← hw3] at hR3 b3
  have hR6 : Blk ((((w3.setCell ⟨w.heap.size, 0, none⟩ (.int .i64 1)).setCell ⟨w.heap.size, 1, none⟩ (.int .i64 (j : Int))).setCell ⟨w.heap.size, 2, none⟩ (.string ⟨#[]⟩)).setCell ⟨w.heap.size, 3, none⟩ (.slice none 0 0)) w.heap.size 181 #[.int .i64 1, .int .i64 (j : Int), .string ⟨#[]⟩, .slice none 0 0] := (((hR3.set_ 0 _).set_ 1 _).set_ 2 _).set_ 3 _
  refine bodyPost_ret (results_cell_row_tmp rfl _ _ w.heap.size 181 _ (0, 0) _ rfl hR6 Tryz.underlying181 rfl termInfo) rfl ?_
  exact ⟨rfl, (((b3.setCell (Nat.le_refl _) _).setCell (Nat.le_refl _) _).setCell (Nat.le_refl _) _).setCell (Nat.le_refl _) _⟩

set_option maxRecDepth 100000 in
set_option maxHeartbeats 4000000 in
theorem of_data (w : World) (base t M : Nat) (T : List Node) (k : Nat) (hT : TableAt w base t M T k) (hlen : T.length ≤ 100000) (s : List UInt8) (hs : s.length ≤ 9223372036854775807) (n : Nat) (hn : numOf T.length s = some n) (d : List UInt8) (hx : T[n]? = some (.data d)) :
    Calls Tryz.prog 133 #[.pointer (some ⟨t, 0, none⟩), .string (bs s)] w fun e w' => e = .returned (.tuple #[.agg #[.int .i64 2, .int .i64 0, .string (bs d), .slice none 0 0], .bool true]) ∧ Below w.heap.size w w' := by
  obtain ⟨w1, hw1⟩ : ∃ w1, w1 = w.alloc (.cells #[.int .i64 0, .int .i64 0, .string ⟨#[]⟩, .slice none 0 0] 181) := ⟨_, rfl⟩
  have b1 : Below w.heap.size w w1 := by rw [hw1]; exact (Below.refl _ _).alloc (Nat.le_refl _) _
  have hR1 : Blk w1 w.heap.size 181 #[.int .i64 0, .int .i64 0, .string ⟨#[]⟩, .slice none 0 0] := by rw [hw1]; exact Blk.new _ _ _
  have hT1 := hT.later b1
  have hnone := termNone_any w1 base t M T k hT1
  have hnum := termNumber_any w1 base t M T k hT1 hlen (bs s) (by rw [bs_size]; omega)
  rw [bs_list, show numI T.length s = (n : Int) by unfold numI; rw [hn]] at hnum
  have HW1 : Hid (w1 = w.alloc (.cells #[.int .i64 0, .int .i64 0, .string ⟨#[]⟩, .slice none 0 0] 181)) := hw1
  have hnl := numOf_lt hn
  clear hw1 hT hn
  go_enter Tryz.func133, Tryz.ntmps133
  go_wp2_with fail
  rw [← HW1.out]
  refine hnone.mono ?_
  rintro e w' ⟨rfl, hw⟩
  rw [hw]
  clear hw w' hnone
  go_wp2_with fail
  refine hnum.mono ?_
  rintro e w2 ⟨rfl, b2⟩
  clear hnum
  have hR2 := hR1.later b2
  have hT2 := hT1.later b2
  have B2 : Hid (Below w.heap.size w w2) := Below.step b1 b2
  clear b1 b2 hR1 hT1 HW1 w1
  obtain ⟨lv, xs, m, D, a1, a2, a3, a4, a5, a6, a7, a8⟩ := hT2
  obtain ⟨gl, cl, hlv, hcl, hlc⟩ := row_cell a2 (by omega)
  obtain ⟨v, hv, hve⟩ := a7 n _ hx
  subst hlv
  have C0 : w2.cell? ⟨t, 0, none⟩ = some (.slice (some ⟨gl, 0, none⟩) T.length cl) := a1.cell 0
  have C3 := hlc n v hv
  change v = .iface 201 (.agg #[.string (bs d)]) at hve
  subst hve
  clear a1 a2 a3 a4 a5 a6 a7 a8 hlc hv
  have hta0 := fun W => assert2 W #[.string (bs d)]
  have hta1 := fun W => assert4 W #[.string (bs d)]
  have hR3 : Blk (w2.alloc (.cells #[.string (bs d)] 201)) w.heap.size 181 #[.int .i64 0, .int .i64 0, .string ⟨#[]⟩, .slice none 0 0] := hR2.alloc _
  have b3 : Below w.heap.size w (w2.alloc (.cells #[.string (bs d)] 201)) := B2.out.alloc B2.out.size _
  have hD : Blk (w2.alloc (.cells #[.string (bs d)] 201)) w2.heap.size 201 #[.string (bs d)] := Blk.new _ _ _
  obtain ⟨w3, hw3⟩ : ∃ w3, w3 = (w2.alloc (.cells #[.string (bs d)] 201)) := ⟨_, rfl⟩
  have HW3 : Hid (w3 = (w2.alloc (.cells #[.string (bs d)] 201))) := hw3
  have D0 : (w2.alloc (.cells #[.string (bs d)] 201)).cell? ⟨w2.heap.size, 0, none⟩ = some (.string (bs d)) := hD.cell 0
  have R0 : (w2.alloc (.cells #[.string (bs d)] 201)).cell? ⟨w.heap.size, 0, none⟩ = some (.int .i64 0) := hR3.cell 0
  have R1 : (w2.alloc (.cells #[.string (bs d)] 201)).cell? ⟨w.heap.size, 1, none⟩ = some (.int .i64 0) := hR3.cell 1
  have R2 : (w2.alloc (.cells #[.string (bs d)] 201)).cell? ⟨w.heap.size, 2, none⟩ = some (.string ⟨#[]⟩) := hR3.cell 2
  have R3 : (w2.alloc (.cells #[.string (bs d)] 201)).cell? ⟨w.heap.size, 3, none⟩ = some (.slice none 0 0) := hR3.cell 3
  have FR0 : (w2.alloc (.cells #[.string (bs d)] 201)).frozen? ⟨w.heap.size, 0, none⟩ = false := hR3.frozen 0
  have FR1 : (w2.alloc (.cells #[.string (bs d)] 201)).frozen? ⟨w.heap.size, 1, none⟩ = false := hR3.frozen 1
  have FR2 : (w2.alloc (.cells #[.string (bs d)] 201)).frozen? ⟨w.heap.size, 2, none⟩ = false := hR3.frozen 2
  have FR3 : (w2.alloc (.cells #[.string (bs d)] 201)).frozen? ⟨w.heap.size, 3, none⟩ = false := hR3.frozen 3
  go_wp2_with fail
  rw [← HW3.out]
  rw [← hw3] at hR3 b3
  have hR6 : Blk ((((w3.setCell ⟨w.heap.size, 0, none⟩ (.int .i64 2)).setCell ⟨w.heap.size, 1, none⟩ (.int .i64 0)).setCell ⟨w.heap.size, 2, none⟩ (.string (bs d))).setCell ⟨w.heap.size, 3, none⟩ (.slice none 0 0)) w.heap.size 181 #[.int .i64 2, .int .i64 0, .string (bs d), .slice none 0 0] := (((hR3.set_ 0 _).set_ 1 _).set_ 2 _).set_ 3 _
  refine bodyPost_ret (results_cell_row_tmp rfl _ _ w.heap.size 181 _ (0, 0) _ rfl hR6 Tryz.underlying181 rfl termInfo) rfl ?_
  exact ⟨rfl, (((b3.setCell (Nat.le_refl _) _).setCell (Nat.le_refl _) _).setCell (Nat.le_refl _) _).setCell (Nat.le_refl _) _⟩

set_option maxRecDepth 100000 in
set_option maxHeartbeats 4000000 in
theorem of_made (w : World) (base t M : Nat) (T : List Node) (k : Nat) (hT : TableAt w base t M T k) (hlen : T.length ≤ 100000) (s : List UInt8) (hs : s.length ≤ 9223372036854775807) (n : Nat) (hn : numOf T.length s = some n) (kd nd : Nat) (l : List UInt8) (ps : List Nat) (hps : 0 < ps.length) (hx : T[n]? = some (.made kd nd l ps)) :
    Calls Tryz.prog 133 #[.pointer (some ⟨t, 0, none⟩), .string (bs s)] w fun e w' => (∃ pv', e = .returned (.tuple #[.agg #[.int .i64 (kd : Int), .int .i64 (nd : Int), .string (bs l), pv'], .bool true]) ∧ w'.ownsRow w.heap.size 3 1 pv' ps.length (intL ps)) ∧ Below w.heap.size w w' := by
  obtain ⟨w1, hw1⟩ : ∃ w1, w1 = w.alloc (.cells #[.int .i64 0, .int .i64 0, .string ⟨#[]⟩, .slice none 0 0] 181) := ⟨_, rfl⟩
  have b1 : Below w.heap.size w w1 := by rw [hw1]; exact (Below.refl _ _).alloc (Nat.le_refl _) _
  have hR1 : Blk w1 w.heap.size 181 #[.int .i64 0, .int .i64 0, .string ⟨#[]⟩, .slice none 0 0] := by rw [hw1]; exact Blk.new _ _ _
  have hT1 := hT.later b1
  have hnone := termNone_any w1 base t M T k hT1
  have hnum := termNumber_any w1 base t M T k hT1 hlen (bs s) (by rw [bs_size]; omega)
  rw [bs_list, show numI T.length s = (n : Int) by unfold numI; rw [hn]] at hnum
  have HW1 : Hid (w1 = w.alloc (.cells #[.int .i64 0, .int .i64 0, .string ⟨#[]⟩, .slice none 0 0] 181)) := hw1
  have hnl := numOf_lt hn
  clear hw1 hT hn
  go_enter Tryz.func133, Tryz.ntmps133
  go_wp2_with fail
  rw [← HW1.out]
  refine hnone.mono ?_
  rintro e w' ⟨rfl, hw⟩
  rw [hw]
  clear hw w' hnone
  go_wp2_with fail
  refine hnum.mono ?_
  rintro e w2 ⟨rfl, b2⟩
  clear hnum
  have hR2 := hR1.later b2
  have hT2 := hT1.later b2
  have B2 : Hid (Below w.heap.size w w2) := Below.step b1 b2
  clear b1 b2 hR1 hT1 HW1 w1
  obtain ⟨lv, xs, m, D, a1, a2, a3, a4, a5, a6, a7, a8⟩ := hT2
  obtain ⟨gl, cl, hlv, hcl, hlc⟩ := row_cell a2 (by omega)
  obtain ⟨v, hv, hve⟩ := a7 n _ hx
  subst hlv
  have C0 : w2.cell? ⟨t, 0, none⟩ = some (.slice (some ⟨gl, 0, none⟩) T.length cl) := a1.cell 0
  have C3 := hlc n v hv
  obtain ⟨pv, hve, hpo, _⟩ := hve
  obtain ⟨gp, cp, hpv, hcp, hpc⟩ := row_cell hpo hps
  subst hpv
  subst hve
  have hgp : gp < w2.heap.size := (hpo.lt gp rfl).2
  have hpl := (a8 _ (List.mem_of_getElem? hx)).2.2.2.1
  clear a1 a2 a3 a4 a5 a6 a7 a8 hlc hv
  have hta0 := fun W => assert3 W #[.int .i64 (kd : Int), .int .i64 (nd : Int), .string (bs l), .slice (some ⟨gp, 0, none⟩) ps.length cp]
  have hta1 := fun W => assert5 W #[.int .i64 (kd : Int), .int .i64 (nd : Int), .string (bs l), .slice (some ⟨gp, 0, none⟩) ps.length cp]
  have hta2 := fun W => assert6 W #[.int .i64 (kd : Int), .int .i64 (nd : Int), .string (bs l), .slice (some ⟨gp, 0, none⟩) ps.length cp]
  have C0' : (w2.alloc (.cells #[.int .i64 (kd : Int), .int .i64 (nd : Int), .string (bs l), .slice (some ⟨gp, 0, none⟩) ps.length cp] 195)).cell? ⟨t, 0, none⟩ = some (.slice (some ⟨gl, 0, none⟩) T.length cl) := Below.cell_some ((Below.refl _ _).alloc (Nat.le_refl _) _) C0
  have hR3 : Blk (w2.alloc (.cells #[.int .i64 (kd : Int), .int .i64 (nd : Int), .string (bs l), .slice (some ⟨gp, 0, none⟩) ps.length cp] 195)) w.heap.size 181 #[.int .i64 0, .int .i64 0, .string ⟨#[]⟩, .slice none 0 0] := hR2.alloc _
  have b3 : Below w.heap.size w (w2.alloc (.cells #[.int .i64 (kd : Int), .int .i64 (nd : Int), .string (bs l), .slice (some ⟨gp, 0, none⟩) ps.length cp] 195)) := B2.out.alloc B2.out.size _
  have hD : Blk (w2.alloc (.cells #[.int .i64 (kd : Int), .int .i64 (nd : Int), .string (bs l), .slice (some ⟨gp, 0, none⟩) ps.length cp] 195)) w2.heap.size 195 #[.int .i64 (kd : Int), .int .i64 (nd : Int), .string (bs l), .slice (some ⟨gp, 0, none⟩) ps.length cp] := Blk.new _ _ _
  have hpo3 : (w2.alloc (.cells #[.int .i64 (kd : Int), .int .i64 (nd : Int), .string (bs l), .slice (some ⟨gp, 0, none⟩) ps.length cp] 195)).ownsRow base 3 1 (.slice (some ⟨gp, 0, none⟩) ps.length cp) ps.length (intL ps) := hpo.alloc _
  obtain ⟨w3, hw3⟩ : ∃ w3, w3 = (w2.alloc (.cells #[.int .i64 (kd : Int), .int .i64 (nd : Int), .string (bs l), .slice (some ⟨gp, 0, none⟩) ps.length cp] 195)) := ⟨_, rfl⟩
  have HW3 : Hid (w3 = (w2.alloc (.cells #[.int .i64 (kd : Int), .int .i64 (nd : Int), .string (bs l), .slice (some ⟨gp, 0, none⟩) ps.length cp] 195))) := hw3
  go_wp2_with fail
  rw [← HW3.out]
  rw [← hw3] at hR3 b3 hD hpo3
  clear hw3 HW3 hta0 hta1 hta2 C0 C0' C3
  have Z0 : w3.drew.cell? ⟨w2.heap.size, 0, none⟩ = some (.int .i64 (kd : Int)) := hD.cell 0
  have Z1 : w3.drew.cell? ⟨w2.heap.size, 1, none⟩ = some (.int .i64 (nd : Int)) := hD.cell 1
  have Z2 : w3.drew.cell? ⟨w2.heap.size, 2, none⟩ = some (.string (bs l)) := hD.cell 2
  have Z3 : w3.drew.cell? ⟨w2.heap.size, 3, none⟩ = some (.slice (some ⟨gp, 0, none⟩) ps.length cp) := hD.cell 3
  obtain ⟨zs, hzs⟩ : ∃ zs : List Int, zs = ps.map fun (p : Nat) => (p : Int) := ⟨_, rfl⟩
  have hzl : ps.length ≤ zs.length := by rw [hzs]; simp
  have hpc3 := hpo3.cells (g := gp) rfl
  have hcl := Tryz.slices_Clone_int gp 0 ps.length cp zs w3.drew hzl (by omega) (fun j hj => by
    have hjl : j < ps.length := by rw [hzs] at hj; simpa using hj
    have h := hpc3 j (.int .i64 (ps[j] : Nat)) (by simp [intL, hjl])
    rw [addr_add, Nat.zero_add] at h
    show w3.cell? ⟨gp, 0 + j, none⟩ = _
    rw [Nat.zero_add, h, hzs]
    simp [hjl])
  have htk : (zs.take ps.length).map (Value.int .i64) = intL ps := by rw [List.take_of_length_le (by rw [hzs]; simp), hzs, intL, List.map_map]; rfl
  rw [htk] at hcl
  have hne : w2.heap.size ≠ w.heap.size := by have := hR2.lt; omega
  clear hpc3 hpo3 hpc hpo htk hzl hzs
  go_region_held3 (fun w' => w'.cell? ⟨w2.heap.size, 0, none⟩ = some (.int .i64 (kd : Int)) ∧ w'.cell? ⟨w2.heap.size, 1, none⟩ = some (.int .i64 (nd : Int)) ∧ w'.cell? ⟨w2.heap.size, 2, none⟩ = some (.string (bs l)) ∧ w'.cell? ⟨w2.heap.size, 3, none⟩ = some (.slice (some ⟨gp, 0, none⟩) ps.length cp)) (first | exact ⟨V0, V1, V2, V3⟩ | exact ⟨Y0, Y1, Y2, Y3⟩ | exact ⟨Z0, Z1, Z2, Z3⟩)
    (first | (go_at_call 146; refine hcl.mono ?_; rintro e w4 ⟨v', rfl, hv', hnn, b4⟩; obtain ⟨A4, c4, e4⟩ := ownsRow_slice hv'; subst e4; have hD4 : Blk w4 w2.heap.size 195 _ := hD.drew.later b4; have hD5 : Blk ((((w4.setCell ⟨w.heap.size, 0, none⟩ (.int .i64 (kd : Int))).setCell ⟨w.heap.size, 1, none⟩ (.int .i64 (nd : Int))).setCell ⟨w.heap.size, 2, none⟩ (.string (bs l))).setCell ⟨w.heap.size, 3, none⟩ (.slice A4 ps.length c4)) w2.heap.size 195 _ := (((hD4.far hne _).far hne _).far hne _).far hne _; have V0 : ((((w4.setCell ⟨w.heap.size, 0, none⟩ (.int .i64 (kd : Int))).setCell ⟨w.heap.size, 1, none⟩ (.int .i64 (nd : Int))).setCell ⟨w.heap.size, 2, none⟩ (.string (bs l))).setCell ⟨w.heap.size, 3, none⟩ (.slice A4 ps.length c4)).cell? ⟨w2.heap.size, 0, none⟩ = some (.int .i64 (kd : Int)) := hD5.cell 0; have V1 : ((((w4.setCell ⟨w.heap.size, 0, none⟩ (.int .i64 (kd : Int))).setCell ⟨w.heap.size, 1, none⟩ (.int .i64 (nd : Int))).setCell ⟨w.heap.size, 2, none⟩ (.string (bs l))).setCell ⟨w.heap.size, 3, none⟩ (.slice A4 ps.length c4)).cell? ⟨w2.heap.size, 1, none⟩ = some (.int .i64 (nd : Int)) := hD5.cell 1; have V2 : ((((w4.setCell ⟨w.heap.size, 0, none⟩ (.int .i64 (kd : Int))).setCell ⟨w.heap.size, 1, none⟩ (.int .i64 (nd : Int))).setCell ⟨w.heap.size, 2, none⟩ (.string (bs l))).setCell ⟨w.heap.size, 3, none⟩ (.slice A4 ps.length c4)).cell? ⟨w2.heap.size, 2, none⟩ = some (.string (bs l)) := hD5.cell 2; have V3 : ((((w4.setCell ⟨w.heap.size, 0, none⟩ (.int .i64 (kd : Int))).setCell ⟨w.heap.size, 1, none⟩ (.int .i64 (nd : Int))).setCell ⟨w.heap.size, 2, none⟩ (.string (bs l))).setCell ⟨w.heap.size, 3, none⟩ (.slice A4 ps.length c4)).cell? ⟨w2.heap.size, 3, none⟩ = some (.slice (some ⟨gp, 0, none⟩) ps.length cp) := hD5.cell 3; have hR4 : Blk w4 w.heap.size 181 #[.int .i64 0, .int .i64 0, .string ⟨#[]⟩, .slice none 0 0] := hR3.drew.later b4; have R0 : w4.cell? ⟨w.heap.size, 0, none⟩ = some (.int .i64 0) := hR4.cell 0; have R1 : w4.cell? ⟨w.heap.size, 1, none⟩ = some (.int .i64 0) := hR4.cell 1; have R2 : w4.cell? ⟨w.heap.size, 2, none⟩ = some (.string ⟨#[]⟩) := hR4.cell 2; have R3 : w4.cell? ⟨w.heap.size, 3, none⟩ = some (.slice none 0 0) := hR4.cell 3; have FR0 : w4.frozen? ⟨w.heap.size, 0, none⟩ = false := hR4.frozen 0; have FR1 : w4.frozen? ⟨w.heap.size, 1, none⟩ = false := hR4.frozen 1; have FR2 : w4.frozen? ⟨w.heap.size, 2, none⟩ = false := hR4.frozen 2; have FR3 : w4.frozen? ⟨w.heap.size, 3, none⟩ = false := hR4.frozen 3; have Y0 : w4.cell? ⟨w2.heap.size, 0, none⟩ = some (.int .i64 (kd : Int)) := Below.cell_some b4 Z0; have Y1 : w4.cell? ⟨w2.heap.size, 1, none⟩ = some (.int .i64 (nd : Int)) := Below.cell_some b4 Z1; have Y2 : w4.cell? ⟨w2.heap.size, 2, none⟩ = some (.string (bs l)) := Below.cell_some b4 Z2; have Y3 : w4.cell? ⟨w2.heap.size, 3, none⟩ = some (.slice (some ⟨gp, 0, none⟩) ps.length cp) := Below.cell_some b4 Z3))
  all_goals (
    clear V0 V1 V2 V3 Y0 Y1 Y2 Y3 hD5 hD4 R0 R1 R2 R3 FR0 FR1 FR2 FR3
    go_wp2
    have hR6 : Blk ((((w4.setCell ⟨w.heap.size, 0, none⟩ (.int .i64 (kd : Int))).setCell ⟨w.heap.size, 1, none⟩ (.int .i64 (nd : Int))).setCell ⟨w.heap.size, 2, none⟩ (.string (bs l))).setCell ⟨w.heap.size, 3, none⟩ (.slice A4 ps.length c4)) w.heap.size 181 #[.int .i64 (kd : Int), .int .i64 (nd : Int), .string (bs l), .slice A4 ps.length c4] := (((hR4.set_ 0 _).set_ 1 _).set_ 2 _).set_ 3 _
    have hne4 : (Value.slice A4 ps.length c4).ownBlock ≠ some w.heap.size := own_blk_ne hv' hR4 (by decide)
    have hv6 : ((((w4.setCell ⟨w.heap.size, 0, none⟩ (.int .i64 (kd : Int))).setCell ⟨w.heap.size, 1, none⟩ (.int .i64 (nd : Int))).setCell ⟨w.heap.size, 2, none⟩ (.string (bs l))).setCell ⟨w.heap.size, 3, none⟩ (.slice A4 ps.length c4)).ownsRow w3.drew.heap.size 3 1 (.slice A4 ps.length c4) ps.length (intL ps) := hv'.kept (grownBy_set (grownBy_set (grownBy_set (grownBy_set (grownBy_refl w4 (some w.heap.size)) _) _) _) _) (.inr hne4)
    have b6 : Below w.heap.size w w4 := (show Below w.heap.size w w3.drew from ⟨b3.os, b3.tape, b3.output, b3.size, b3.block⟩).trans (b4.mono b3.size)
    refine bodyPost_ret (results_cell_row_tmp rfl _ _ w.heap.size 181 _ (0, 0) _ rfl hR6 Tryz.underlying181 rfl termInfo) rfl ?_
    exact ⟨⟨_, rfl, ownsRow_base hv6 b3.size⟩, (((b6.setCell (Nat.le_refl _) _).setCell (Nat.le_refl _) _).setCell (Nat.le_refl _) _).setCell (Nat.le_refl _) _⟩)

end Go.Proofs.YtipehnojibdfeaaGreat

/- prim's kind of terms: named, part, is. -/
namespace Go.Proofs.YtipehnojibdfeaaGreat
open Go Go.Proofs Go.RowKit

theorem bs_beq (a b : List UInt8) : ((bs a).toList == (bs b).toList) = decide (a = b) := by
  rw [Lib.toList_data, Lib.toList_data, bs_list, bs_list]
  by_cases h : a = b <;> simp [h]
set_option maxRecDepth 100000 in
theorem named_any (w : World) (n : Nat) (hn : n ≤ 65536) : Calls Tryz.prog 147 #[.int .i64 (n : Int)] w fun e w' => e = .returned (.string (bs (textL n))) ∧ Below w.heap.size w w' := by
  have hp := putNumber_any w ⟨#[240, 84, 82, 77]⟩ 4 (n : Int) (by omega) (by omega) (by show (4 : Nat) ≤ _; omega) (by omega) (by omega)
  go_enter Tryz.func147, Tryz.ntmps147
  go_wp2_with fail
  refine hp.mono ?_
  rintro e w' ⟨rfl, hb⟩
  clear hp
  go_wp2
  go_ret
  exact ⟨rfl, hb⟩

set_option maxRecDepth 100000 in
set_option maxHeartbeats 4000000 in
theorem part_data (w : World) (base t M : Nat) (T : List Node) (k : Nat) (hT : TableAt w base t M T k) (hlen : T.length ≤ 60000) (n : Nat) (d : List UInt8) (hx : T[n]? = some (.data d)) :
    Calls Tryz.prog 135 #[.pointer (some ⟨t, 0, none⟩), .int .i64 (n : Int)] w fun e w' => e = .returned (.tuple #[.agg #[.int .i64 2, .int .i64 0, .string (bs d), .slice none 0 0], .string (bs d)]) ∧ Below w.heap.size w w' := by
  have hnl : n < T.length := (List.getElem?_eq_some_iff.1 hx).1
  obtain ⟨w1, hw1⟩ : ∃ w1, w1 = w.alloc (.cells #[.int .i64 0, .int .i64 0, .string ⟨#[]⟩, .slice none 0 0] 181) := ⟨_, rfl⟩
  have b1 : Below w.heap.size w w1 := by rw [hw1]; exact (Below.refl _ _).alloc (Nat.le_refl _) _
  have hR1 : Blk w1 w.heap.size 181 #[.int .i64 0, .int .i64 0, .string ⟨#[]⟩, .slice none 0 0] := by rw [hw1]; exact Blk.new _ _ _
  have hnm := named_any w1 n (by omega)
  have HW1 : Hid (w1 = w.alloc (.cells #[.int .i64 0, .int .i64 0, .string ⟨#[]⟩, .slice none 0 0] 181)) := hw1
  clear hw1
  go_enter Tryz.func135, Tryz.ntmps135
  go_wp2_with fail
  rw [← HW1.out]
  refine hnm.mono ?_
  rintro e w2 ⟨rfl, b2⟩
  have b12 := Below.step b1 b2
  have hof := of_data w2 base t M T k (hT.later b12) (by omega) (textL n) (by rw [textL_length]; omega) n (numOf_text _ _ hnl (by omega)) d hx
  clear hnm
  go_wp2_with fail
  refine hof.mono ?_
  rintro e w3 ⟨rfl, b3⟩
  clear hof
  have b123 : Below w.heap.size w w3 := Below.step b12 b3
  have hR3 := (hR1.later b2).later b3
  obtain ⟨w4, hw4⟩ : ∃ w4, w4 = w3.alloc (.cells #[.int .i64 2, .int .i64 0, .string (bs d), .slice none 0 0] 181) := ⟨_, rfl⟩
  have hD4 : Blk w4 w3.heap.size 181 #[.int .i64 2, .int .i64 0, .string (bs d), .slice none 0 0] := by rw [hw4]; exact Blk.new _ _ _
  have hR4 : Blk w4 w.heap.size 181 #[.int .i64 0, .int .i64 0, .string ⟨#[]⟩, .slice none 0 0] := by rw [hw4]; exact hR3.alloc _
  have b4 : Below w.heap.size w w4 := by rw [hw4]; exact b123.alloc b123.size _
  have D0' : (w3.alloc (.cells #[.int .i64 2, .int .i64 0, .string (bs d), .slice none 0 0] 181)).cell? ⟨w3.heap.size, 0, none⟩ = some (.int .i64 2) := by rw [← hw4]; exact hD4.cell 0
  have HW4 : Hid (w4 = w3.alloc (.cells #[.int .i64 2, .int .i64 0, .string (bs d), .slice none 0 0] 181)) := hw4
  have HNE : Hid (w.heap.size < w3.heap.size) := hR3.lt
  clear hw4 hR1 hR3 b1 b2 b3 b12 b123 HW1 hT
  go_wp2_with fail
  rw [← HW4.out]
  have D0 : w4.cell? ⟨w3.heap.size, 0, none⟩ = some (.int .i64 2) := hD4.cell 0
  have D1 : w4.cell? ⟨w3.heap.size, 1, none⟩ = some (.int .i64 0) := hD4.cell 1
  have D2 : w4.cell? ⟨w3.heap.size, 2, none⟩ = some (.string (bs d)) := hD4.cell 2
  have D3 : w4.cell? ⟨w3.heap.size, 3, none⟩ = some (.slice none 0 0) := hD4.cell 3
  have R0 : w4.cell? ⟨w.heap.size, 0, none⟩ = some (.int .i64 0) := hR4.cell 0
  have R1 : w4.cell? ⟨w.heap.size, 1, none⟩ = some (.int .i64 0) := hR4.cell 1
  have R2 : w4.cell? ⟨w.heap.size, 2, none⟩ = some (.string ⟨#[]⟩) := hR4.cell 2
  have R3 : w4.cell? ⟨w.heap.size, 3, none⟩ = some (.slice none 0 0) := hR4.cell 3
  have F0 : w4.frozen? ⟨w.heap.size, 0, none⟩ = false := hR4.frozen 0
  have F1 : w4.frozen? ⟨w.heap.size, 1, none⟩ = false := hR4.frozen 1
  have F2 : w4.frozen? ⟨w.heap.size, 2, none⟩ = false := hR4.frozen 2
  have F3 : w4.frozen? ⟨w.heap.size, 3, none⟩ = false := hR4.frozen 3
  clear HW4 D0'
  have hne1 : ¬ w3.heap.size = w.heap.size := by have := HNE.out; omega
  have hne2 : ¬ w.heap.size = w3.heap.size := by have := HNE.out; omega
  go_region
  have hR6 : Blk ((((w4.setCell ⟨w.heap.size, 0, none⟩ (.int .i64 2)).setCell ⟨w.heap.size, 1, none⟩ (.int .i64 0)).setCell ⟨w.heap.size, 2, none⟩ (.string (bs d))).setCell ⟨w.heap.size, 3, none⟩ (.slice none 0 0)).drew w.heap.size 181 #[.int .i64 2, .int .i64 0, .string (bs d), .slice none 0 0] := (((hR4.set_ 0 _).set_ 1 _).set_ 2 _).set_ 3 _
  have b6 : Below w.heap.size w ((((w4.setCell ⟨w.heap.size, 0, none⟩ (.int .i64 2)).setCell ⟨w.heap.size, 1, none⟩ (.int .i64 0)).setCell ⟨w.heap.size, 2, none⟩ (.string (bs d))).setCell ⟨w.heap.size, 3, none⟩ (.slice none 0 0)) := (((b4.setCell (Nat.le_refl _) _).setCell (Nat.le_refl _) _).setCell (Nat.le_refl _) _).setCell (Nat.le_refl _) _
  go_wp2
  refine bodyPost_ret (results_cell_row_tmp rfl _ _ w.heap.size 181 _ (0, 0) _ rfl hR6 Tryz.underlying181 rfl termInfo) rfl ?_
  exact ⟨rfl, b6.os, b6.tape, b6.output, b6.size, b6.block⟩

set_option maxRecDepth 100000 in
set_option maxHeartbeats 4000000 in
theorem is_name (w : World) (base t M : Nat) (T : List Node) (k : Nat) (hT : TableAt w base t M T k) (hlen : T.length ≤ 60000) (s : List UInt8) (hs : s.length ≤ 9223372036854775807) (m j : Nat) (hm : numOf T.length s = some m) (hx : T[m]? = some (.name j)) (n : Nat) (hn : n ≤ 65536) (b : Bool) (hbv : b = decide (s = textL n)) :
    Calls Tryz.prog 134 #[.agg #[.pointer (some ⟨t, 0, none⟩)], .string (bs s), .int .i64 (n : Int)] w fun e w' => e = .returned (.bool b) ∧ Below w.heap.size w w' := by
  have b1 : Below w.heap.size w (w.alloc (.cells #[.pointer (some ⟨t, 0, none⟩)] 78)) := (Below.refl _ _).alloc (Nat.le_refl _) _
  have hof := of_name _ base t M T k (hT.later b1) (by omega) s hs m hm j hx
  have heq : ((bs s).toList == (bs (textL n)).toList) = b := (bs_beq s (textL n)).trans hbv.symm
  clear hbv
  go_enter Tryz.func134, Tryz.ntmps134
  go_wp2_with fail
  refine hof.mono ?_
  rintro e w2 ⟨rfl, b2⟩
  clear hof
  have b12 := Below.step b1 b2
  have hnm := named_any (w2.alloc (.cells #[.int .i64 1, .int .i64 (j : Int), .string ⟨#[]⟩, .slice none 0 0] 181)) n hn
  go_wp2_with fail
  refine hnm.mono ?_
  rintro e w3 ⟨rfl, b3⟩
  clear hnm
  have b123 : Below w.heap.size w w3 := (b12.alloc b12.size _).trans (b3.mono (by have := b12.size; simp; omega))
  clear b12 b1 b2 b3
  go_wp2
  go_ret
  exact ⟨rfl, b123⟩

set_option maxRecDepth 100000 in
set_option maxHeartbeats 4000000 in
theorem is_data (w : World) (base t M : Nat) (T : List Node) (k : Nat) (hT : TableAt w base t M T k) (hlen : T.length ≤ 60000) (s : List UInt8) (hs : s.length ≤ 9223372036854775807) (hm : numOf T.length s = none) (n : Nat) (d : List UInt8) (hx : T[n]? = some (.data d)) (b : Bool) (hbv : b = decide (s = d)) :
    Calls Tryz.prog 134 #[.agg #[.pointer (some ⟨t, 0, none⟩)], .string (bs s), .int .i64 (n : Int)] w fun e w' => e = .returned (.bool b) ∧ Below w.heap.size w w' := by
  obtain ⟨w1, hw1⟩ : ∃ w1, w1 = w.alloc (.cells #[.pointer (some ⟨t, 0, none⟩)] 78) := ⟨_, rfl⟩
  have b1 : Below w.heap.size w w1 := by rw [hw1]; exact (Below.refl _ _).alloc (Nat.le_refl _) _
  have hS1 : Blk w1 w.heap.size 78 #[.pointer (some ⟨t, 0, none⟩)] := by rw [hw1]; exact Blk.new _ _ _
  have hof := of_none w1 base t M T k (hT.later b1) (by omega) s hs hm
  have heq : ((bs s).toList == (bs d).toList) = b := (bs_beq s d).trans hbv.symm
  have HW1 : Hid (w1 = w.alloc (.cells #[.pointer (some ⟨t, 0, none⟩)] 78)) := hw1
  clear hbv hw1
  go_enter Tryz.func134, Tryz.ntmps134
  go_wp2_with fail
  rw [← HW1.out]
  refine hof.mono ?_
  rintro e w2 ⟨rfl, b2⟩
  clear hof
  have b12 := Below.step b1 b2
  have z2 : Below w2.heap.size w2 (w2.alloc (.cells #[.int .i64 0, .int .i64 0, .string ⟨#[]⟩, .slice none 0 0] 181)) := (Below.refl _ _).alloc (Nat.le_refl _) _
  have S2 : (w2.alloc (.cells #[.int .i64 0, .int .i64 0, .string ⟨#[]⟩, .slice none 0 0] 181)).cell? ⟨w.heap.size, 0, none⟩ = some (.pointer (some ⟨t, 0, none⟩)) := Below.cell_some (Below.step b2 z2) (hS1.cell 0)
  have hpart := part_data (w2.alloc (.cells #[.int .i64 0, .int .i64 0, .string ⟨#[]⟩, .slice none 0 0] 181)) base t M T k ((hT.later b12).later z2) hlen n d hx
  clear HW1 hS1
  show _
  unfold zeroTerm
  go_wp2_with fail
  refine hpart.mono ?_
  rintro e w3 ⟨rfl, b3⟩
  clear hpart S2
  have b123 : Below w.heap.size w w3 := (Below.step b12 z2).trans (b3.mono (by have := b12.size; simp; omega))
  have D0 : (w3.alloc (.cells #[.int .i64 2, .int .i64 0, .string (bs d), .slice none 0 0] 181)).cell? ⟨w3.heap.size, 0, none⟩ = some (.int .i64 2) := (Blk.new w3 _ _).cell 0
  have D2 : (w3.alloc (.cells #[.int .i64 2, .int .i64 0, .string (bs d), .slice none 0 0] 181)).cell? ⟨w3.heap.size, 2, none⟩ = some (.string (bs d)) := (Blk.new w3 _ _).cell 2
  clear b12 b1 b2 b3
  go_wp2
  go_ret
  exact ⟨rfl, b123.alloc b123.size _⟩
end Go.Proofs.YtipehnojibdfeaaGreat

/- prim's kind of terms: secret, public, dh, seal. -/
namespace Go.Proofs.YtipehnojibdfeaaGreat
open Go Go.Proofs Go.RowKit

set_option maxRecDepth 100000 in
set_option maxHeartbeats 4000000 in
theorem symSecret_any (w : World) (base t M : Nat) (T : List Node) (k : Nat) (hT : TableAt w base t M T k) (hb : base ≤ w.heap.size) (hlen : T.length ≤ 60000) (hk : k ≤ 60000) (d : ByteArray) :
    Calls Tryz.prog 128 #[.agg #[.pointer (some ⟨t, 0, none⟩)], .string d] w fun e w' => e = .returned (.string (bs (textL (putN T (.name k)).2))) ∧ TableAt w' base t M (putN T (.name k)).1 (k + 1) ∧ TF base w w' := by
  have b1 : Below w.heap.size w (w.alloc (.cells #[.pointer (some ⟨t, 0, none⟩)] 78)) := (Below.refl _ _).alloc (Nat.le_refl _) _
  have hf := termFresh_any _ base t M T k (hT.later b1) (Nat.le_trans hb b1.size) hlen hk
  go_enter Tryz.func128, Tryz.ntmps128
  go_wp2_with fail
  refine hf.mono ?_
  rintro e w2 ⟨rfl, hT2, q2⟩
  clear hf
  go_wp2
  go_ret
  exact ⟨rfl, hT2, (TF.of_below b1 hb).trans q2⟩
theorem strRow_new (w : World) (ss : List (List UInt8)) (cs : Array Value) (hcs : ∀ (j : Nat) s, ss[j]? = some s → cs[j]? = some (.string (bs s))) : StrRow (w.alloc (.cells cs 9)) (some ⟨w.heap.size, 0, none⟩) ss := .inr ⟨_, cs, _, rfl, Blk.new _ _ _, hcs⟩

set_option maxRecDepth 100000 in
set_option maxHeartbeats 4000000 in
theorem symPublic_any (w : World) (base t M : Nat) (T : List Node) (k : Nat) (hT : TableAt w base t M T k) (hM : M ≤ w.heap.size) (hb : base ≤ w.heap.size) (hlen : T.length ≤ 60000) (s : List UInt8) (hs : s.length ≤ 65536) :
    Calls Tryz.prog 126 #[.agg #[.pointer (some ⟨t, 0, none⟩)], .string (bs s)] w fun e w' => e = .returned (.tuple #[.string (bs (textL (makeN T 3 [] [s]).2)), .int .i64 0]) ∧ TableAt w' base t w'.heap.size (makeN T 3 [] [s]).1 k ∧ TF base w w' := by
  have b1 : Below w.heap.size w ((w.alloc (.cells #[.pointer (some ⟨t, 0, none⟩)] 78)).alloc (.cells #[.string (bs s)] 9)) := ((Below.refl _ _).alloc (Nat.le_refl _) _).alloc (by simp) _
  have hA := strRow_new (w.alloc (.cells #[.pointer (some ⟨t, 0, none⟩)] 78)) [s] #[.string (bs s)] (fun j x hj => by match j, hj with | 0, hj => simp at hj; subst hj; rfl)
  rw [World.size_alloc] at hA
  have hf := make_any _ base t M T k (hT.later b1) (Nat.le_trans hM b1.size) (Nat.le_trans hb b1.size) hlen 3 (by omega) [s] (by simp) (fun h => by omega) (fun _ => rfl) (fun h => by omega) (by simp; exact hs) _ 1 hA (fun W => right3_any W)
  clear hA
  go_enter Tryz.func126, Tryz.ntmps126
  go_wp2_with fail
  refine hf.mono ?_
  rintro e w2 ⟨rfl, hT2, q2⟩
  clear hf
  go_wp2
  go_ret2
  exact ⟨rfl, hT2, (TF.of_below b1 hb).trans q2⟩

set_option maxRecDepth 100000 in
set_option maxHeartbeats 4000000 in
theorem symDh_any (w : World) (base t M : Nat) (T : List Node) (k : Nat) (hT : TableAt w base t M T k) (hM : M ≤ w.heap.size) (hb : base ≤ w.heap.size) (hlen : T.length ≤ 60000) (s p : List UInt8) (hs : s.length ≤ 65536) (hp : p.length ≤ 65536) (hk4 : ∃ a b q n2 l2, (partsN T [] [s, p]).2 = [a, b] ∧ (partsN T [] [s, p]).1[b]? = some (.made 3 n2 l2 [q]) ∧ q ≤ 65536) :
    Calls Tryz.prog 123 #[.agg #[.pointer (some ⟨t, 0, none⟩)], .string (bs s), .string (bs p)] w fun e w' => e = .returned (.tuple #[.string (bs (textL (makeN T 4 [] [s, p]).2)), .int .i64 0]) ∧ TableAt w' base t w'.heap.size (makeN T 4 [] [s, p]).1 k ∧ TF base w w' := by
  have b1 : Below w.heap.size w ((w.alloc (.cells #[.pointer (some ⟨t, 0, none⟩)] 78)).alloc (.cells #[.string (bs s), .string (bs p)] 9)) := ((Below.refl _ _).alloc (Nat.le_refl _) _).alloc (by simp) _
  have hA := strRow_new (w.alloc (.cells #[.pointer (some ⟨t, 0, none⟩)] 78)) [s, p] #[.string (bs s), .string (bs p)] (fun j x hj => by
    match j, hj with
    | 0, hj => simp at hj; subst hj; rfl
    | 1, hj => simp at hj; subst hj; rfl)
  rw [World.size_alloc] at hA
  have hf := make_any _ base t M T k (hT.later b1) (Nat.le_trans hM b1.size) (Nat.le_trans hb b1.size) hlen 4 (by omega) [s, p] (by simp) (fun h => by omega) (fun h => by omega) (fun _ => hk4) (by simp; exact ⟨hs, hp⟩) _ 2 hA (fun W => right4_any W)
  clear hA hk4
  go_enter Tryz.func123, Tryz.ntmps123
  go_wp2_with fail
  refine hf.mono ?_
  rintro e w2 ⟨rfl, hT2, q2⟩
  clear hf
  go_wp2
  go_ret2
  exact ⟨rfl, hT2, (TF.of_below b1 hb).trans q2⟩

set_option maxRecDepth 100000 in
set_option maxHeartbeats 4000000 in
theorem symSeal_any (w : World) (base t M : Nat) (T : List Node) (k : Nat) (hT : TableAt w base t M T k) (hM : M ≤ w.heap.size) (hb : base ≤ w.heap.size) (hlen : T.length ≤ 60000) (s1 s2 s3 s4 : List UInt8) (h1 : s1.length ≤ 65536) (h2 : s2.length ≤ 65536) (h3 : s3.length ≤ 65536) (h4 : s4.length ≤ 65536) :
    Calls Tryz.prog 127 #[.agg #[.pointer (some ⟨t, 0, none⟩)], .string (bs s1), .string (bs s2), .string (bs s3), .string (bs s4)] w fun e w' => e = .returned (.tuple #[.string (bs (textL (makeN T 6 [] [s1, s2, s3, s4]).2)), .int .i64 0]) ∧ TableAt w' base t w'.heap.size (makeN T 6 [] [s1, s2, s3, s4]).1 k ∧ TF base w w' := by
  have b1 : Below w.heap.size w ((w.alloc (.cells #[.pointer (some ⟨t, 0, none⟩)] 78)).alloc (.cells #[.string (bs s1), .string (bs s2), .string (bs s3), .string (bs s4)] 9)) := ((Below.refl _ _).alloc (Nat.le_refl _) _).alloc (by simp) _
  have hA := strRow_new (w.alloc (.cells #[.pointer (some ⟨t, 0, none⟩)] 78)) [s1, s2, s3, s4] #[.string (bs s1), .string (bs s2), .string (bs s3), .string (bs s4)] (fun j x hj => by
    match j, hj with
    | 0, hj => simp at hj; subst hj; rfl
    | 1, hj => simp at hj; subst hj; rfl
    | 2, hj => simp at hj; subst hj; rfl
    | 3, hj => simp at hj; subst hj; rfl)
  rw [World.size_alloc] at hA
  have hf := make_any _ base t M T k (hT.later b1) (Nat.le_trans hM b1.size) (Nat.le_trans hb b1.size) hlen 6 (by omega) [s1, s2, s3, s4] (by simp) (fun _ => rfl) (fun h => by omega) (fun h => by omega) (by simp; exact ⟨h1, h2, h3, h4⟩) _ 4 hA (fun W => right6_any W)
  clear hA
  go_enter Tryz.func127, Tryz.ntmps127
  go_wp2_with fail
  refine hf.mono ?_
  rintro e w2 ⟨rfl, hT2, q2⟩
  clear hf
  go_wp2
  go_ret2
  exact ⟨rfl, hT2, (TF.of_below b1 hb).trans q2⟩
end Go.Proofs.YtipehnojibdfeaaGreat

/- prim's kind of terms: open. -/
namespace Go.Proofs.YtipehnojibdfeaaGreat
open Go Go.Proofs Go.RowKit

def openR (b : Bool) (txt : List UInt8) : Value := if b then .tuple #[.string (bs txt), .int .i64 0] else .tuple #[.string (bs []), .int .i64 10]

theorem cell4 {w : World} {g : Nat} {a b c d u : Value} {p : Addr} (h : w.cell? p = some u) (hne : p.block < g) : ((((w.setCell ⟨g, 0, none⟩ a).setCell ⟨g, 1, none⟩ b).setCell ⟨g, 2, none⟩ c).setCell ⟨g, 3, none⟩ d).cell? p = some u := by
  have hn : ∀ i, (⟨g, i, none⟩ : Addr) ≠ p := fun i e => by rw [← e] at hne; simp at hne
  rw [World.cell?_setCell_other _ _ _ _ (hn 3), World.cell?_setCell_other _ _ _ _ (hn 2), World.cell?_setCell_other _ _ _ _ (hn 1), World.cell?_setCell_other _ _ _ _ (hn 0)]
  exact h
set_option maxRecDepth 100000 in
set_option maxHeartbeats 8000000 in
theorem symOpen_any (w : World) (base t M : Nat) (T : List Node) (k : Nat) (hT : TableAt w base t M T k) (hlen : T.length ≤ 60000) (key nonce ad sealed : List UInt8) (hkl : key.length ≤ 9223372036854775807) (hnl : nonce.length ≤ 9223372036854775807) (hal : ad.length ≤ 9223372036854775807) (hsl : sealed.length ≤ 9223372036854775807)
    (m nd pa pb pc pd km j : Nat) (l nb cb txt : List UInt8) (hm : numOf T.length sealed = some m) (hx : T[m]? = some (.made 6 nd l [pa, pb, pc, pd])) (hpa : pa ≤ 65536)
    (hkm : numOf T.length key = some km) (hkx : T[km]? = some (.name j)) (hnn : numOf T.length nonce = none) (hnx : T[pb]? = some (.data nb)) (han : numOf T.length ad = none) (hax : T[pc]? = some (.data cb)) (htx : T[pd]? = some (.data txt))
    (b1 b2 b3 : Bool) (h1 : b1 = decide (key = textL pa)) (h2 : b2 = decide (nonce = nb)) (h3 : b3 = decide (ad = cb)) :
    Calls Tryz.prog 125 #[.agg #[.pointer (some ⟨t, 0, none⟩)], .string (bs key), .string (bs nonce), .string (bs ad), .string (bs sealed)] w fun e w' => e = .returned (openR (b1 && b2 && b3) txt) ∧ Below w.heap.size w w' := by
  obtain ⟨w1, hw1⟩ : ∃ w1, w1 = w.alloc (.cells #[.pointer (some ⟨t, 0, none⟩)] 78) := ⟨_, rfl⟩
  have q1 : Below w.heap.size w w1 := by rw [hw1]; exact (Below.refl _ _).alloc (Nat.le_refl _) _
  have hS1 : Blk w1 w.heap.size 78 #[.pointer (some ⟨t, 0, none⟩)] := by rw [hw1]; exact Blk.new _ _ _
  have hof := of_made w1 base t M T k (hT.later q1) (by omega) sealed hsl m hm 6 nd l [pa, pb, pc, pd] (by simp) hx
  obtain ⟨sk, hsk⟩ : ∃ sk, sk = bs key := ⟨_, rfl⟩
  obtain ⟨sn, hsn⟩ : ∃ sn, sn = bs nonce := ⟨_, rfl⟩
  obtain ⟨sa, hsa⟩ : ∃ sa, sa = bs ad := ⟨_, rfl⟩
  have hi1 := fun W hW => is_name W base t M T k hW hlen key hkl km j hkm hkx pa hpa b1 h1
  have hi2 := fun W hW => is_data W base t M T k hW hlen nonce hnl hnn pb nb hnx b2 h2
  have hi3 := fun W hW => is_data W base t M T k hW hlen ad hal han pc cb hax b3 h3
  have hpt := fun W hW => part_data W base t M T k hW hlen pd txt htx
  rw [← hsk] at hi1 ⊢
  rw [← hsn] at hi2 ⊢
  rw [← hsa] at hi3 ⊢
  have HW1 : Hid (w1 = w.alloc (.cells #[.pointer (some ⟨t, 0, none⟩)] 78)) := hw1
  clear hw1 hsk hsn hsa h1 h2 h3 hm hx hkm hkx hnn hnx han hax htx
  go_enter Tryz.func125, Tryz.ntmps125
  go_wp2_with fail
  rw [← HW1.out]
  refine hof.mono ?_
  rintro e w2 ⟨⟨pv, rfl, hpv⟩, q2⟩
  clear hof
  obtain ⟨gp, cp, hpve, hcp, hpc⟩ := row_cell hpv (by simp)
  have hP : ∀ (i : Nat) (p : Nat), [pa, pb, pc, pd][i]? = some p → w2.cell? ⟨gp, i, none⟩ = some (.int .i64 (p : Int)) := fun i p hi => hpc i _ (by rw [intL, List.getElem?_map, hi]; rfl)
  subst hpve
  obtain ⟨w3, hw3⟩ : ∃ w3, w3 = w2.alloc (.cells #[.int .i64 6, .int .i64 (nd : Int), .string (bs l), .slice (some ⟨gp, 0, none⟩) 4 cp] 181) := ⟨_, rfl⟩
  have z3 : Below w2.heap.size w2 w3 := by rw [hw3]; exact (Below.refl _ _).alloc (Nat.le_refl _) _
  have hX3 : Blk w3 w2.heap.size 181 #[.int .i64 6, .int .i64 (nd : Int), .string (bs l), .slice (some ⟨gp, 0, none⟩) 4 cp] := by rw [hw3]; exact Blk.new _ _ _
  have q3 : Below w.heap.size w w3 := Below.step (Below.step q1 q2) z3
  have hT3 := hT.later q3
  have L0 := later_cell (show w3.cell? ⟨w.heap.size, 0, none⟩ = some (.pointer (some ⟨t, 0, none⟩)) from Below.cell_some z3 (Below.cell_some q2 (hS1.cell 0)))
  have L1 := later_cell (show w3.cell? ⟨w2.heap.size, 0, none⟩ = some (.int .i64 6) from hX3.cell 0)
  have L2 := later_cell (show w3.cell? ⟨w2.heap.size, 3, none⟩ = some (.slice (some ⟨gp, 0, none⟩) 4 cp) from hX3.cell 3)
  have P0 := later_cell (Below.cell_some z3 (hP 0 pa rfl))
  have P1 := later_cell (Below.cell_some z3 (hP 1 pb rfl))
  have P2 := later_cell (Below.cell_some z3 (hP 2 pc rfl))
  have P3 := later_cell (Below.cell_some z3 (hP 3 pd rfl))
  have i1 : ∀ x : Later w3, Calls Tryz.prog 134 #[.agg #[.pointer (some ⟨t, 0, none⟩)], .string sk, .int .i64 (pa : Int)] x.v fun e w' => e = .returned (.bool b1) ∧ Below x.v.heap.size x.v w' := fun x => hi1 _ (hT3.later x.h)
  have i2 : ∀ x : Later w3, Calls Tryz.prog 134 #[.agg #[.pointer (some ⟨t, 0, none⟩)], .string sn, .int .i64 (pb : Int)] x.v fun e w' => e = .returned (.bool b2) ∧ Below x.v.heap.size x.v w' := fun x => hi2 _ (hT3.later x.h)
  have i3 : ∀ x : Later w3, Calls Tryz.prog 134 #[.agg #[.pointer (some ⟨t, 0, none⟩)], .string sa, .int .i64 (pc : Int)] x.v fun e w' => e = .returned (.bool b3) ∧ Below x.v.heap.size x.v w' := fun x => hi3 _ (hT3.later x.h)
  have HW3 : Hid (w3 = w2.alloc (.cells #[.int .i64 6, .int .i64 (nd : Int), .string (bs l), .slice (some ⟨gp, 0, none⟩) 4 cp] 181)) := hw3
  have hT2 := hT.later (Below.step q1 q2)
  clear hw3 hi1 hi2 hi3 hpv hpc hP hX3 q1 q2 z3 hS1 HW1 hT
  have hnil : bs [] = ⟨#[]⟩ := rfl
  cases b1 with
  | false =>
    go_wp2_with fail
    rw [← HW3.out]
    refine wp_region_later (by kernel_rfl) (by kernel_rfl) ?_
    repeat (go_big_quiet_step ((first | (go_at_call 134; exact later_of (i1 _)))))
    refine wpQuiet_nil ?_
    intro _ hw'
    obtain ⟨x, hw''⟩ := hw'
    subst hw''
    go_wp2
    go_ret2
    exact ⟨rfl, q3.trans (x.h.mono q3.size)⟩
  | true =>
    cases b2 with
    | false =>
      go_wp2_with fail
      rw [← HW3.out]
      refine wp_region_later (by kernel_rfl) (by kernel_rfl) ?_
      iterate 14 (go_big_quiet_step (fail))
      go_big_quiet_step ((go_at_call 134; exact later_of (i1 _)))
      iterate 9 (go_big_quiet_step (fail))
      go_big_quiet_step ((go_at_call 134; exact later_of (i2 _)))
      repeat (go_big_quiet_step (fail))
      refine wpQuiet_nil ?_
      intro _ hw'
      obtain ⟨x, hw''⟩ := hw'
      subst hw''
      go_wp2
      go_ret2
      exact ⟨rfl, q3.trans (x.h.mono q3.size)⟩
    | true =>
      cases b3 with
      | false =>
        go_wp2_with fail
        rw [← HW3.out]
        refine wp_region_later (by kernel_rfl) (by kernel_rfl) ?_
        iterate 14 (go_big_quiet_step (fail))
        go_big_quiet_step ((go_at_call 134; exact later_of (i1 _)))
        iterate 9 (go_big_quiet_step (fail))
        go_big_quiet_step ((go_at_call 134; exact later_of (i2 _)))
        iterate 9 (go_big_quiet_step (fail))
        go_big_quiet_step ((go_at_call 134; exact later_of (i3 _)))
        repeat (go_big_quiet_step (fail))
        refine wpQuiet_nil ?_
        intro _ hw'
        obtain ⟨x, hw''⟩ := hw'
        subst hw''
        go_wp2
        go_ret2
        exact ⟨rfl, q3.trans (x.h.mono q3.size)⟩
      | true =>
        go_wp2_with fail
        rw [← HW3.out]
        refine wp_region_later (by kernel_rfl) (by kernel_rfl) ?_
        iterate 14 (go_big_quiet_step (fail))
        go_big_quiet_step ((go_at_call 134; exact later_of (i1 _)))
        iterate 9 (go_big_quiet_step (fail))
        go_big_quiet_step ((go_at_call 134; exact later_of (i2 _)))
        iterate 9 (go_big_quiet_step (fail))
        go_big_quiet_step ((go_at_call 134; exact later_of (i3 _)))
        repeat (go_big_quiet_step (fail))
        refine wpQuiet_nil ?_
        intro _ hw'
        obtain ⟨x, hw''⟩ := hw'
        subst hw''
        have q4 := q3.trans (x.h.mono q3.size)
        have L0 := later_cell (L0 x)
        have L1 := later_cell (L1 x)
        have L2 := later_cell (L2 x)
        have P3 := later_cell (P3 x)
        have hT4 := hT3.later x.h
        clear i1 i2 i3 P0 P1 P2 HW3
        obtain ⟨w4, x⟩ := x
        simp only at *
        clear x
        have Z0 : w4.drew.cell? ⟨w.heap.size, 0, none⟩ = some (.pointer (some ⟨t, 0, none⟩)) := L0 ⟨w4, Below.refl _ _⟩
        have Z1 : w4.drew.cell? ⟨w2.heap.size, 3, none⟩ = some (.slice (some ⟨gp, 0, none⟩) 4 cp) := L2 ⟨w4, Below.refl _ _⟩
        have Z2 : w4.drew.cell? ⟨gp, 3, none⟩ = some (.int .i64 (pd : Int)) := P3 ⟨w4, Below.refl _ _⟩
        have za : Below w4.heap.size w4.drew (w4.alloc (.cells #[.int .i64 0, .int .i64 0, .string ⟨#[]⟩, .slice none 0 0] 181)).drew := ⟨rfl, rfl, rfl, by simp, fun i hi => (Below.refl w4.heap.size w4 |>.alloc (Nat.le_refl _) _).block i hi⟩
        have A0 : (w4.alloc (.cells #[.int .i64 0, .int .i64 0, .string ⟨#[]⟩, .slice none 0 0] 181)).drew.cell? ⟨w.heap.size, 0, none⟩ = some (.pointer (some ⟨t, 0, none⟩)) := Below.cell_some za Z0
        have A1 : (w4.alloc (.cells #[.int .i64 0, .int .i64 0, .string ⟨#[]⟩, .slice none 0 0] 181)).drew.cell? ⟨w2.heap.size, 3, none⟩ = some (.slice (some ⟨gp, 0, none⟩) 4 cp) := Below.cell_some za Z1
        have A2 : (w4.alloc (.cells #[.int .i64 0, .int .i64 0, .string ⟨#[]⟩, .slice none 0 0] 181)).drew.cell? ⟨gp, 3, none⟩ = some (.int .i64 (pd : Int)) := Below.cell_some za Z2
        have hDa : Blk (w4.alloc (.cells #[.int .i64 0, .int .i64 0, .string ⟨#[]⟩, .slice none 0 0] 181)).drew w4.heap.size 181 #[.int .i64 0, .int .i64 0, .string ⟨#[]⟩, .slice none 0 0] := Blk.new w4 _ _
        have hT4d : TableAt w4.drew base t M T k := hT4
        have hT4a0 : TableAt (w4.alloc (.cells #[.int .i64 0, .int .i64 0, .string ⟨#[]⟩, .slice none 0 0] 181)) base t M T k := hT4.later ((Below.refl _ _).alloc (Nat.le_refl _) _)
        have hT4a : TableAt (w4.alloc (.cells #[.int .i64 0, .int .i64 0, .string ⟨#[]⟩, .slice none 0 0] 181)).drew base t M T k := hT4a0
        have N0 : Hid ((⟨w.heap.size, 0, none⟩ : Addr).block < w4.heap.size) := block_lt_of_cell Z0
        have N1 : Hid ((⟨w2.heap.size, 3, none⟩ : Addr).block < w4.heap.size) := block_lt_of_cell Z1
        have N2 : Hid ((⟨gp, 3, none⟩ : Addr).block < w4.heap.size) := block_lt_of_cell Z2
        have Q4 : Hid (Below w.heap.size w w4.drew) := ⟨q4.os, q4.tape, q4.output, q4.size, q4.block⟩
        have QA : Hid (Below w.heap.size w (w4.alloc (.cells #[.int .i64 0, .int .i64 0, .string ⟨#[]⟩, .slice none 0 0] 181)).drew) := (show Below w.heap.size w w4.drew from Q4.out).trans (za.mono q4.size)
        clear L0 L1 L2 P3
        go_wp2_with fail
        go_region_held3 (fun w' => w'.cell? ⟨w.heap.size, 0, none⟩ = some (.pointer (some ⟨t, 0, none⟩)) ∧ w'.cell? ⟨w2.heap.size, 3, none⟩ = some (.slice (some ⟨gp, 0, none⟩) 4 cp) ∧ w'.cell? ⟨gp, 3, none⟩ = some (.int .i64 (pd : Int))) (first | (with_reducible exact ⟨Y0, Y1, Y2⟩) | (with_reducible exact ⟨Z0, Z1, Z2⟩) | (with_reducible exact ⟨A0, A1, A2⟩) | with_reducible exact ⟨cell4 Y0 N0.out, cell4 Y1 N1.out, cell4 Y2 N2.out⟩ | go_keep)
          (first | (go_at_call 135; refine (hpt _ (by first | exact hT4d | exact hT4a)).mono ?_; rintro e w5 ⟨rfl, q5⟩; have Y0 : w5.cell? ⟨w.heap.size, 0, none⟩ = some (.pointer (some ⟨t, 0, none⟩)) := (by first | exact Below.cell_some q5 Z0 | exact Below.cell_some q5 A0); have Y1 : w5.cell? ⟨w2.heap.size, 3, none⟩ = some (.slice (some ⟨gp, 0, none⟩) 4 cp) := (by first | exact Below.cell_some q5 Z1 | exact Below.cell_some q5 A1); have Y2 : w5.cell? ⟨gp, 3, none⟩ = some (.int .i64 (pd : Int)) := (by first | exact Below.cell_some q5 Z2 | exact Below.cell_some q5 A2); try (have hD5 : Blk w5 w4.heap.size 181 #[.int .i64 0, .int .i64 0, .string ⟨#[]⟩, .slice none 0 0] := hDa.later q5; have D0 : w5.cell? ⟨w4.heap.size, 0, none⟩ = some (.int .i64 0) := hD5.cell 0; have D1 : w5.cell? ⟨w4.heap.size, 1, none⟩ = some (.int .i64 0) := hD5.cell 1; have D2 : w5.cell? ⟨w4.heap.size, 2, none⟩ = some (.string ⟨#[]⟩) := hD5.cell 2; have D3 : w5.cell? ⟨w4.heap.size, 3, none⟩ = some (.slice none 0 0) := hD5.cell 3; have F0 : w5.frozen? ⟨w4.heap.size, 0, none⟩ = false := hD5.frozen 0; have F1 : w5.frozen? ⟨w4.heap.size, 1, none⟩ = false := hD5.frozen 1; have F2 : w5.frozen? ⟨w4.heap.size, 2, none⟩ = false := hD5.frozen 2; have F3 : w5.frozen? ⟨w4.heap.size, 3, none⟩ = false := hD5.frozen 3)))
        · have q6 : Below w.heap.size w w5 := Q4.out.trans (q5.mono Q4.out.size)
          go_wp2
          go_ret2
          exact ⟨rfl, q6.alloc q6.size _⟩
        · have q6 : Below w.heap.size w w5 := QA.out.trans (q5.mono QA.out.size)
          have hle : w.heap.size ≤ w4.heap.size := Q4.out.size
          go_wp2
          go_ret2
          exact ⟨rfl, (((q6.setCell hle _).setCell hle _).setCell hle _).setCell hle _⟩
end Go.Proofs.YtipehnojibdfeaaGreat
