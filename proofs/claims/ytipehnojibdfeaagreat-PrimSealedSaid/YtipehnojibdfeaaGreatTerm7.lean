/- the table of terms: shared. -/
import Derived.Test.YtipehnojibdfeaaGreatTerm6
namespace Go.Proofs.YtipehnojibdfeaaGreat
open Go Go.Proofs Go.RowKit

theorem row_cell {w : World} {base : Nat} {e : TypeId} {v : Value} {n : Nat} {xs : List Value} (h : w.ownsRow base e 1 v n xs) (hn : 0 < n) : ∃ g c, v = .slice (some ⟨g, 0, none⟩) n c ∧ n ≤ c ∧ ∀ j u, xs[j]? = some u → w.cell? ⟨g, j, none⟩ = some u := by
  rcases h.2 with ⟨_, hz⟩ | ⟨g, cap, cur, e1, e2, e3, e4, e5, e6, e7⟩
  · omega
  · refine ⟨g, cap, e1, e4, fun j u hj => ?_⟩
    have := h.cells (g := g) (by rw [e1]; rfl) j u hj
    rw [addr_add, Nat.zero_add] at this
    exact this

theorem madeInfo : (Tryz.prog.info? 195).map (·.size) = some 4 := by kernel_rfl
theorem assertMade (W : World) (cs : Array Value) : (Instr.typeAssert (.iface 195 (.agg cs)) 199 195 true).run Tryz.prog W = .ok (.tuple #[.agg cs, .bool true]) W := by kernel_rfl
set_option maxRecDepth 100000 in
set_option maxHeartbeats 4000000 in
theorem shared_any (w : World) (base t M : Nat) (T : List Node) (k : Nat) (hT : TableAt w base t M T k) (hlen : T.length ≤ 100000) (a b q n2 : Nat) (l l2 : List UInt8) (hpub : T[b]? = some (.made 3 n2 l2 [q])) (ha : a ≤ 65536) (hq : q ≤ 65536) (hb : base ≤ w.heap.size) (pv : Value)
    (ho : w.ownsRow base 3 1 pv 2 [.int .i64 (a : Int), .int .i64 (b : Int)]) :
    Calls Tryz.prog 144 #[.pointer (some ⟨t, 0, none⟩), .agg #[.int .i64 4, .int .i64 0, .string (bs l), pv]] w fun e w' => ∃ pv', e = .returned (.agg #[.int .i64 4, .int .i64 0, .string (bs l), pv']) ∧ w'.ownsRow base 3 1 pv' 2 [.int .i64 ((min a q : Nat) : Int), .int .i64 ((max a q : Nat) : Int)] ∧ Below w.heap.size w w' := by
  obtain ⟨lv, xs, m, D, a1, a2, a3, a4, a5, a6, a7, a8⟩ := hT
  have hbT : b < T.length := (List.getElem?_eq_some_iff.1 hpub).1
  obtain ⟨gl, cl, hlv, hcl, hlc⟩ := row_cell a2 (by omega)
  obtain ⟨v, hv, qv, hve, hqo, _⟩ := a7 b _ hpub
  obtain ⟨gp, cp, hpv, hcp, hpc⟩ := row_cell ho (by omega)
  obtain ⟨gq, cq, hqv, hcq, hqc⟩ := row_cell hqo (by simp)
  subst hve hpv hqv
  obtain ⟨w1, hw1⟩ : ∃ w1, w1 = (w.alloc (.cells #[.int .i64 4, .int .i64 0, .string (bs l), .slice (some ⟨gp, 0, none⟩) 2 cp] 195)).alloc (.cells #[.int .i64 0, .int .i64 0, .string ⟨#[]⟩, .slice none 0 0] 195) := ⟨_, rfl⟩
  have b1 : Below w.heap.size w w1 := by rw [hw1]; exact ((Below.refl _ _).alloc (Nat.le_refl _) _).alloc (by simp) _
  have hX : Blk w1 w.heap.size 195 #[.int .i64 4, .int .i64 0, .string (bs l), .slice (some ⟨gp, 0, none⟩) 2 cp] := by rw [hw1]; exact (Blk.new _ _ _).alloc _
  have hR : Blk w1 (w.heap.size + 1) 195 #[.int .i64 0, .int .i64 0, .string ⟨#[]⟩, .slice none 0 0] := by
    have h := Blk.new (w.alloc (.cells #[.int .i64 4, .int .i64 0, .string (bs l), .slice (some ⟨gp, 0, none⟩) 2 cp] 195)) 195 #[.int .i64 0, .int .i64 0, .string ⟨#[]⟩, .slice none 0 0]
    rw [World.size_alloc] at h
    rw [hw1]; exact h
  have C0 : w1.cell? ⟨t, 0, none⟩ = some (.slice (some ⟨gl, 0, none⟩) T.length cl) := by rw [← hlv]; exact (a1.later b1).cell 0
  have C1 : w1.cell? ⟨w.heap.size, 3, none⟩ = some (.slice (some ⟨gp, 0, none⟩) 2 cp) := hX.cell 3
  have C2 : w1.cell? ⟨gp, 1, none⟩ = some (.int .i64 (b : Int)) := Below.cell_some b1 (hpc 1 _ rfl)
  have C3 : w1.cell? ⟨gl, b, none⟩ = some (.iface 195 (.agg #[.int .i64 3, .int .i64 (n2 : Int), .string (bs l2), .slice (some ⟨gq, 0, none⟩) 1 cq])) := Below.cell_some b1 (hlc b _ hv)
  have C4 : w1.cell? ⟨gp, 0, none⟩ = some (.int .i64 (a : Int)) := Below.cell_some b1 (hpc 0 _ rfl)
  have C5 : w1.cell? ⟨gq, 0, none⟩ = some (.int .i64 (q : Int)) := Below.cell_some b1 (hqc 0 _ rfl)
  have HW1 : Hid (w1 = (w.alloc (.cells #[.int .i64 4, .int .i64 0, .string (bs l), .slice (some ⟨gp, 0, none⟩) 2 cp] 195)).alloc (.cells #[.int .i64 0, .int .i64 0, .string ⟨#[]⟩, .slice none 0 0] 195)) := hw1
  clear hw1 a1 a2 a3 a4 a5 a6 a7 a8 hlc hpc hqc ho hqo hv hlv hpub
  go_enter Tryz.func144, Tryz.ntmps144
  go_wp2_with fail
  rw [← HW1.out]
  have hta := fun W => assertMade W #[.int .i64 3, .int .i64 (n2 : Int), .string (bs l2), .slice (some ⟨gq, 0, none⟩) 1 cq]
  have z1 : Below w1.heap.size w1 (w1.alloc (.cells #[.int .i64 0, .int .i64 0, .string ⟨#[]⟩, .slice none 0 0] 195)) := (Below.refl _ _).alloc (Nat.le_refl _) _
  have C0' := Below.cell_some z1 C0
  have C1' := Below.cell_some z1 C1
  have C2' := Below.cell_some z1 C2
  have C3' := Below.cell_some z1 C3
  go_region
  obtain ⟨w2, hw2⟩ : ∃ w2, w2 = (w1.alloc (.cells #[.int .i64 3, .int .i64 (n2 : Int), .string (bs l2), .slice (some ⟨gq, 0, none⟩) 1 cq] 195)).drew := ⟨_, rfl⟩
  rw [← hw2]
  have b12 : Below w1.heap.size w1 w2 := by
    rw [hw2]
    have h : Below w1.heap.size w1 (w1.alloc (.cells #[.int .i64 3, .int .i64 (n2 : Int), .string (bs l2), .slice (some ⟨gq, 0, none⟩) 1 cq] 195)) := (Below.refl _ _).alloc (Nat.le_refl _) _
    exact ⟨h.os, h.tape, h.output, h.size, h.block⟩
  have hP2 : Blk w2 w1.heap.size 195 #[.int .i64 3, .int .i64 (n2 : Int), .string (bs l2), .slice (some ⟨gq, 0, none⟩) 1 cq] := by rw [hw2]; exact Blk.new w1 _ _
  have hX2 := hX.later b12
  have hR2 := hR.later b12
  have P0 : w2.cell? ⟨w1.heap.size, 0, none⟩ = some (.int .i64 3) := hP2.cell 0
  have P3 : w2.cell? ⟨w1.heap.size, 3, none⟩ = some (.slice (some ⟨gq, 0, none⟩) 1 cq) := hP2.cell 3
  have X0 : w2.cell? ⟨w.heap.size, 0, none⟩ = some (.int .i64 4) := hX2.cell 0
  have X1 : w2.cell? ⟨w.heap.size, 1, none⟩ = some (.int .i64 0) := hX2.cell 1
  have X2 : w2.cell? ⟨w.heap.size, 2, none⟩ = some (.string (bs l)) := hX2.cell 2
  have X3 : w2.cell? ⟨w.heap.size, 3, none⟩ = some (.slice (some ⟨gp, 0, none⟩) 2 cp) := hX2.cell 3
  have XF : w2.frozen? ⟨w.heap.size, 3, none⟩ = false := hX2.frozen 3
  have D4 := Below.cell_some b12 C4
  have D5 := Below.cell_some b12 C5
  have hRs : w.heap.size + 1 < w2.heap.size := by have := hR2.lt; exact this
  have b2 : Below w.heap.size w w2 := Below.step b1 b12
  clear hw2 C0 C1 C2 C3 C4 C5 C0' C1' C2' C3' z1 hta HW1 b1 hX hR hP2
  go_wp2_with fail
  go_quiet (fail)
  obtain ⟨w3, hw3⟩ : ∃ w3, w3 = w2.drewN nq := ⟨_, rfl⟩
  rw [← hw3]
  have b3 : Below w.heap.size w w3 := by rw [hw3]; exact ⟨b2.os, b2.tape, b2.output, b2.size, b2.block⟩
  have hX3 : Blk w3 w.heap.size 195 #[.int .i64 4, .int .i64 0, .string (bs l), .slice (some ⟨gp, 0, none⟩) 2 cp] := by rw [hw3]; exact hX2.drewN nq
  have hR3 : Blk w3 (w.heap.size + 1) 195 #[.int .i64 0, .int .i64 0, .string ⟨#[]⟩, .slice none 0 0] := by rw [hw3]; exact hR2.drewN nq
  have X0 : w3.cell? ⟨w.heap.size, 0, none⟩ = some (.int .i64 4) := hX3.cell 0
  have X1 : w3.cell? ⟨w.heap.size, 1, none⟩ = some (.int .i64 0) := hX3.cell 1
  have X2 : w3.cell? ⟨w.heap.size, 2, none⟩ = some (.string (bs l)) := hX3.cell 2
  have X3 : w3.cell? ⟨w.heap.size, 3, none⟩ = some (.slice (some ⟨gp, 0, none⟩) 2 cp) := hX3.cell 3
  have XF : w3.frozen? ⟨w.heap.size, 3, none⟩ = false := hX3.frozen 3
  have HB3 : Hid (base ≤ w3.heap.size) := Nat.le_trans hb b3.size
  have hN : Blk (w3.alloc (.cells #[.int .i64 (min (a : Int) (q : Int)), .int .i64 (max (a : Int) (q : Int))] 3)) w3.heap.size 3 #[.int .i64 (min (a : Int) (q : Int)), .int .i64 (max (a : Int) (q : Int))] := Blk.new _ _ _
  have hX4 : Blk ((w3.alloc (.cells #[.int .i64 (min (a : Int) (q : Int)), .int .i64 (max (a : Int) (q : Int))] 3)).setCell ⟨w.heap.size, 3, none⟩ (.slice (some ⟨w3.heap.size, 0, none⟩) 2 2)) w.heap.size 195 #[.int .i64 4, .int .i64 0, .string (bs l), .slice (some ⟨w3.heap.size, 0, none⟩) 2 2] := (hX3.alloc _).set_ 3 _
  have hR4 : Blk ((w3.alloc (.cells #[.int .i64 (min (a : Int) (q : Int)), .int .i64 (max (a : Int) (q : Int))] 3)).setCell ⟨w.heap.size, 3, none⟩ (.slice (some ⟨w3.heap.size, 0, none⟩) 2 2)) (w.heap.size + 1) 195 #[.int .i64 0, .int .i64 0, .string ⟨#[]⟩, .slice none 0 0] := (hR3.alloc _).far (by simp) _
  have hN4 : Blk ((w3.alloc (.cells #[.int .i64 (min (a : Int) (q : Int)), .int .i64 (max (a : Int) (q : Int))] 3)).setCell ⟨w.heap.size, 3, none⟩ (.slice (some ⟨w3.heap.size, 0, none⟩) 2 2)) w3.heap.size 3 #[.int .i64 (min (a : Int) (q : Int)), .int .i64 (max (a : Int) (q : Int))] := hN.far (by have := hX3.lt; simp; omega) _
  have b4 : Below w.heap.size w ((w3.alloc (.cells #[.int .i64 (min (a : Int) (q : Int)), .int .i64 (max (a : Int) (q : Int))] 3)).setCell ⟨w.heap.size, 3, none⟩ (.slice (some ⟨w3.heap.size, 0, none⟩) 2 2)) := (b3.alloc b3.size _).setCell (Nat.le_refl _) _
  obtain ⟨w4, hw4⟩ : ∃ w4, w4 = (w3.alloc (.cells #[.int .i64 (min (a : Int) (q : Int)), .int .i64 (max (a : Int) (q : Int))] 3)).setCell ⟨w.heap.size, 3, none⟩ (.slice (some ⟨w3.heap.size, 0, none⟩) 2 2) := ⟨_, rfl⟩
  rw [← hw4] at hX4 hR4 hN4 b4
  have HW4 : Hid (w4 = (w3.alloc (.cells #[.int .i64 (min (a : Int) (q : Int)), .int .i64 (max (a : Int) (q : Int))] 3)).setCell ⟨w.heap.size, 3, none⟩ (.slice (some ⟨w3.heap.size, 0, none⟩) 2 2)) := hw4
  have XF' : (w3.alloc (.cells #[.int .i64 (min (a : Int) (q : Int)), .int .i64 (max (a : Int) (q : Int))] 3)).frozen? ⟨w.heap.size, 3, none⟩ = false := (hX3.alloc _).frozen 3
  have X3' : (w3.alloc (.cells #[.int .i64 (min (a : Int) (q : Int)), .int .i64 (max (a : Int) (q : Int))] 3)).cell? ⟨w.heap.size, 3, none⟩ = some (.slice (some ⟨gp, 0, none⟩) 2 cp) := (hX3.alloc _).cell 3
  clear hw4 hw3 b2 hX2 hR2 P0 P3 D4 D5 hR3 hX3 hN b3
  go_upto_region 7 with (fail)
  rw [← HW4.out]
  have X0 : w4.cell? ⟨w.heap.size, 0, none⟩ = some (.int .i64 4) := hX4.cell 0
  have X1 : w4.cell? ⟨w.heap.size, 1, none⟩ = some (.int .i64 0) := hX4.cell 1
  have X2 : w4.cell? ⟨w.heap.size, 2, none⟩ = some (.string (bs l)) := hX4.cell 2
  have X3 : w4.cell? ⟨w.heap.size, 3, none⟩ = some (.slice (some ⟨w3.heap.size, 0, none⟩) 2 2) := hX4.cell 3
  have R0 : w4.cell? ⟨w.heap.size + 1, 0, none⟩ = some (.int .i64 0) := hR4.cell 0
  have R1 : w4.cell? ⟨w.heap.size + 1, 1, none⟩ = some (.int .i64 0) := hR4.cell 1
  have R2 : w4.cell? ⟨w.heap.size + 1, 2, none⟩ = some (.string ⟨#[]⟩) := hR4.cell 2
  have R3 : w4.cell? ⟨w.heap.size + 1, 3, none⟩ = some (.slice none 0 0) := hR4.cell 3
  have FR0 : w4.frozen? ⟨w.heap.size + 1, 0, none⟩ = false := hR4.frozen 0
  have FR1 : w4.frozen? ⟨w.heap.size + 1, 1, none⟩ = false := hR4.frozen 1
  have FR2 : w4.frozen? ⟨w.heap.size + 1, 2, none⟩ = false := hR4.frozen 2
  have FR3 : w4.frozen? ⟨w.heap.size + 1, 3, none⟩ = false := hR4.frozen 3
  clear XF XF' X3'
  go_wp2_with fail
  have hR5 : Blk ((((w4.setCell ⟨w.heap.size + 1, 0, none⟩ (.int .i64 4)).setCell ⟨w.heap.size + 1, 1, none⟩ (.int .i64 0)).setCell ⟨w.heap.size + 1, 2, none⟩ (.string (bs l))).setCell ⟨w.heap.size + 1, 3, none⟩ (.slice (some ⟨w3.heap.size, 0, none⟩) 2 2)) (w.heap.size + 1) 195 #[.int .i64 4, .int .i64 0, .string (bs l), .slice (some ⟨w3.heap.size, 0, none⟩) 2 2] := (((hR4.set_ 0 _).set_ 1 _).set_ 2 _).set_ 3 _
  have hN5 : Blk ((((w4.setCell ⟨w.heap.size + 1, 0, none⟩ (.int .i64 4)).setCell ⟨w.heap.size + 1, 1, none⟩ (.int .i64 0)).setCell ⟨w.heap.size + 1, 2, none⟩ (.string (bs l))).setCell ⟨w.heap.size + 1, 3, none⟩ (.slice (some ⟨w3.heap.size, 0, none⟩) 2 2)) w3.heap.size 3 #[.int .i64 (min (a : Int) (q : Int)), .int .i64 (max (a : Int) (q : Int))] := by
    have hne : w3.heap.size ≠ w.heap.size + 1 := by
      rintro e
      have h := hN4
      rw [e] at h
      exact absurd (Option.some.inj (h.symm.trans hR4)) (by simp)
    exact (((hN4.far hne _).far hne _).far hne _).far hne _
  have b5 : Below w.heap.size w ((((w4.setCell ⟨w.heap.size + 1, 0, none⟩ (.int .i64 4)).setCell ⟨w.heap.size + 1, 1, none⟩ (.int .i64 0)).setCell ⟨w.heap.size + 1, 2, none⟩ (.string (bs l))).setCell ⟨w.heap.size + 1, 3, none⟩ (.slice (some ⟨w3.heap.size, 0, none⟩) 2 2)) := by
    have hle : w.heap.size ≤ w.heap.size + 1 := by omega
    exact (((b4.setCell hle _).setCell hle _).setCell hle _).setCell hle _
  refine bodyPost_ret (results_cell_row rfl _ _ (w.heap.size + 1) 195 _ (0, 0) _ rfl hR5 Tryz.underlying195 rfl madeInfo) rfl ?_
  refine ⟨_, rfl, ⟨rfl, .inr ⟨w3.heap.size, 2, _, rfl, HB3.out, hN5, by omega, by unfold maxLen; omega, rfl, ?_⟩⟩, b5⟩
  have e1 : ((min a q : Nat) : Int) = min (a : Int) (q : Int) := by omega
  have e2 : ((max a q : Nat) : Int) = max (a : Int) (q : Int) := by omega
  rw [e1, e2]
  rfl
end Go.Proofs.YtipehnojibdfeaaGreat
