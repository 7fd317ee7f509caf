/- Parts of the proof, as they were built: Term7, Term8, Term9. -/
import Derived.Test.YtipehnojibdfeaaGreatRk11

/- the table of terms: shared. -/
namespace Go.Proofs.YtipehnojibdfeaaGreat
open Go Go.Proofs Go.RowKit

theorem row_cell {w : World} {base : Nat} {e : TypeId} {v : Value} {n : Nat} {xs : List Value} (h : w.ownsRow base e 1 v n xs) (hn : 0 < n) : ∃ g c, v = .slice (some ⟨g, 0, none⟩) n c ∧ n ≤ c ∧ ∀ j u, xs[j]? = some u → w.cell? ⟨g, j, none⟩ = some u := by
  rcases h.2 with ⟨_, hz⟩ | ⟨g, cap, cur, e1, e2, e3, e4, e5, e6, e7⟩
  · omega
  · refine ⟨g, cap, e1, e4, fun j u hj => ?_⟩
    have := h.cells (g := g) (by rw [e1]; rfl) j u hj
    rw [addr_add, Nat.zero_add] at this
    exact this

theorem madeInfo : (Tryz.prog.info? 195).map (·.size) = some 4 := by kernel_rfl
theorem assertMade (W : World) (cs : Array Value) : (Instr.typeAssert (.iface 195 (.agg cs)) 199 195 true).run Tryz.prog W = .ok (.tuple #[.agg cs, .bool true]) W := by kernel_rfl
set_option maxRecDepth 100000 in
set_option maxHeartbeats 4000000 in
theorem shared_any (w : World) (base t M : Nat) (T : List Node) (k : Nat) (hT : TableAt w base t M T k) (hlen : T.length ≤ 100000) (a b q n2 : Nat) (l l2 : List UInt8) (hpub : T[b]? = some (.made 3 n2 l2 [q])) (ha : a ≤ 65536) (hq : q ≤ 65536) (hb : base ≤ w.heap.size) (pv : Value)
    (ho : w.ownsRow base 3 1 pv 2 [.int .i64 (a : Int), .int .i64 (b : Int)]) :
    Calls Tryz.prog 144 #[.pointer (some ⟨t, 0, none⟩), .agg #[.int .i64 4, .int .i64 0, .string (bs l), pv]] w fun e w' => ∃ pv', e = .returned (.agg #[.int .i64 4, .int .i64 0, .string (bs l), pv']) ∧ w'.ownsRow base 3 1 pv' 2 [.int .i64 ((min a q : Nat) : Int), .int .i64 ((max a q : Nat) : Int)] ∧ Below w.heap.size w w' := by
  obtain ⟨lv, xs, m, D, a1, a2, a3, a4, a5, a6, a7, a8⟩ := hT
  have hbT : b < T.length := (List.getElem?_eq_some_iff.1 hpub).1
  obtain ⟨gl, cl, hlv, hcl, hlc⟩ := row_cell a2 (by omega)
  obtain ⟨v, hv, qv, hve, hqo, _⟩ := a7 b _ hpub
  obtain ⟨gp, cp, hpv, hcp, hpc⟩ := row_cell ho (by omega)
  obtain ⟨gq, cq, hqv, hcq, hqc⟩ := row_cell hqo (by simp)
  subst hve hpv hqv
  obtain ⟨w1, hw1⟩ : ∃ w1, w1 = (w.alloc (.cells #[.int .i64 4, .int .i64 0, .string (bs l), .slice (some ⟨gp, 0, none⟩) 2 cp] 195)).alloc (.cells #[.int .i64 0, .int .i64 0, .string ⟨#[]⟩, .slice none 0 0] 195) := ⟨_, rfl⟩
  have b1 : Below w.heap.size w w1 := by rw [hw1]; exact ((Below.refl _ _).alloc (Nat.le_refl _) _).alloc (by simp) _
  have hX : Blk w1 w.heap.size 195 #[.int .i64 4, .int .i64 0, .string (bs l), .slice (some ⟨gp, 0, none⟩) 2 cp] := by rw [hw1]; exact (Blk.new _ _ _).alloc _
  have hR : Blk w1 (w.heap.size + 1) 195 #[.int .i64 0, .int .i64 0, .string ⟨#[]⟩, .slice none 0 0] := by
    have h := Blk.new (w.alloc (.cells #[.int .i64 4, .int .i64 0, .string (bs l), .slice (some ⟨gp, 0, none⟩) 2 cp] 195)) 195 #[.int .i64 0, .int .i64 0, .string ⟨#[]⟩, .slice none 0 0]
    rw [World.size_alloc] at h
    rw [hw1]; exact h
  have C0 : w1.cell? ⟨t, 0, none⟩ = some (.slice (some ⟨gl, 0, none⟩) T.length cl) := by rw [← hlv]; exact (a1.later b1).cell 0
  have C1 : w1.cell? ⟨w.heap.size, 3, none⟩ = some (.slice (some ⟨gp, 0, none⟩) 2 cp) := hX.cell 3
  have C2 : w1.cell? ⟨gp, 1, none⟩ = some (.int .i64 (b : Int)) := Below.cell_some b1 (hpc 1 _ rfl)
  have C3 : w1.cell? ⟨gl, b, none⟩ = some (.iface 195 (.agg #[.int .i64 3, .int .i64 (n2 : Int), .string (bs l2), .slice (some ⟨gq, 0, none⟩) 1 cq])) := Below.cell_some b1 (hlc b _ hv)
  have C4 : w1.cell? ⟨gp, 0, none⟩ = some (.int .i64 (a : Int)) := Below.cell_some b1 (hpc 0 _ rfl)
  have C5 : w1.cell? ⟨gq, 0, none⟩ = some (.int .i64 (q : Int)) := Below.cell_some b1 (hqc 0 _ rfl)
  have HW1 : Hid (w1 = (w.alloc (.cells #[.int .i64 4, .int .i64 0, .string (bs l), .slice (some ⟨gp, 0, none⟩) 2 cp] 195)).alloc (.cells #[.int .i64 0, .int .i64 0, .string ⟨#[]⟩, .slice none 0 0] 195)) := hw1
  clear hw1 a1 a2 a3 a4 a5 a6 a7 a8 hlc hpc hqc ho hqo hv hlv hpub
  go_enter Tryz.func144, Tryz.ntmps144
  go_wp2_with fail
  rw [← HW1.out]
  have hta := fun W => assertMade W #[.int .i64 3, .int .i64 (n2 : Int), .string (bs l2), .slice (some ⟨gq, 0, none⟩) 1 cq]
  have z1 : Below w1.heap.size w1 (w1.alloc (.cells #[.int .i64 0, .int .i64 0, .string ⟨#[]⟩, .slice none 0 0] 195)) := (Below.refl _ _).alloc (Nat.le_refl _) _
  have C0' := Below.cell_some z1 C0
  have C1' := Below.cell_some z1 C1
  have C2' := Below.cell_some z1 C2
  have C3' := Below.cell_some z1 C3
  go_region
  obtain ⟨w2, hw2⟩ : ∃ w2, w2 = (w1.alloc (.cells #[.int .i64 3, .int .i64 (n2 : Int), .string (bs l2), .slice (some ⟨gq, 0, none⟩) 1 cq] 195)).drew := ⟨_, rfl⟩
  rw [← hw2]
  have b12 : Below w1.heap.size w1 w2 := by
    rw [hw2]
    have h : Below w1.heap.size w1 (w1.alloc (.cells #[.int .i64 3, .int .i64 (n2 : Int), .string (bs l2), .slice (some ⟨gq, 0, none⟩) 1 cq] 195)) := (Below.refl _ _).alloc (Nat.le_refl _) _
    exact ⟨h.os, h.tape, h.output, h.size, h.block⟩
  have hP2 : Blk w2 w1.heap.size 195 #[.int .i64 3, .int .i64 (n2 : Int), .string (bs l2), .slice (some ⟨gq, 0, none⟩) 1 cq] := by rw [hw2]; exact Blk.new w1 _ _
  have hX2 := hX.later b12
  have hR2 := hR.later b12
  have P0 : w2.cell? ⟨w1.heap.size, 0, none⟩ = some (.int .i64 3) := hP2.cell 0
  have P3 : w2.cell? ⟨w1.heap.size, 3, none⟩ = some (.slice (some ⟨gq, 0, none⟩) 1 cq) := hP2.cell 3
  have X0 : w2.cell? ⟨w.heap.size, 0, none⟩ = some (.int .i64 4) := hX2.cell 0
  have X1 : w2.cell? ⟨w.heap.size, 1, none⟩ = some (.int .i64 0) := hX2.cell 1
  have X2 : w2.cell? ⟨w.heap.size, 2, none⟩ = some (.string (bs l)) := hX2.cell 2
  have X3 : w2.cell? ⟨w.heap.size, 3, none⟩ = some (.slice (some ⟨gp, 0, none⟩) 2 cp) := hX2.cell 3
  have XF : w2.frozen? ⟨w.heap.size, 3, none⟩ = false := hX2.frozen 3
  have D4 := Below.cell_some b12 C4
  have D5 := Below.cell_some b12 C5
  have hRs : w.heap.size + 1 < w2.heap.size := by have := hR2.lt; exact this
  have b2 : Below w.heap.size w w2 := Below.step b1 b12
  clear hw2 C0 C1 C2 C3 C4 C5 C0' C1' C2' C3' z1 hta HW1 b1 hX hR hP2
  go_wp2_with fail
  go_quiet (fail)
  obtain ⟨w3, hw3⟩ : ∃ w3, w3 = w2.drewN nq := ⟨_, rfl⟩
  rw [← hw3]
  have b3 : Below w.heap.size w w3 := by rw [hw3]; exact ⟨b2.os, b2.tape, b2.output, b2.size, b2.block⟩
  have hX3 : Blk w3 w.heap.size 195 #[.int .i64 4, .int .i64 0, .string (bs l), .slice (some ⟨gp, 0, none⟩) 2 cp] := by rw [hw3]; exact hX2.drewN nq
  have hR3 : Blk w3 (w.heap.size + 1) 195 #[.int .i64 0, .int .i64 0, .string ⟨#[]⟩, .slice none 0 0] := by rw [hw3]; exact hR2.drewN nq
  have X0 : w3.cell? ⟨w.heap.size, 0, none⟩ = some (.int .i64 4) := hX3.cell 0
  have X1 : w3.cell? ⟨w.heap.size, 1, none⟩ = some (.int .i64 0) := hX3.cell 1
  have X2 : w3.cell? ⟨w.heap.size, 2, none⟩ = some (.string (bs l)) := hX3.cell 2
  have X3 : w3.cell? ⟨w.heap.size, 3, none⟩ = some (.slice (some ⟨gp, 0, none⟩) 2 cp) := hX3.cell 3
  have XF : w3.frozen? ⟨w.heap.size, 3, none⟩ = false := hX3.frozen 3
  have HB3 : Hid (base ≤ w3.heap.size) := Nat.le_trans hb b3.size
  have hN : Blk (w3.alloc (.cells #[.int .i64 (min (a : Int) (q : Int)), .int .i64 (max (a : Int) (q : Int))] 3)) w3.heap.size 3 #[.int .i64 (min (a : Int) (q : Int)), .int .i64 (max (a : Int) (q : Int))] := Blk.new _ _ _
  have hX4 : Blk ((w3.alloc (.cells #[.int .i64 (min (a : Int) (q : Int)), .int .i64 (max (a : Int) (q : Int))] 3)).setCell ⟨w.heap.size, 3, none⟩ (.slice (some ⟨w3.heap.size, 0, none⟩) 2 2)) w.heap.size 195 #[.int .i64 4, .int .i64 0, .string (bs l), .slice (some ⟨w3.heap.size, 0, none⟩) 2 2] := (hX3.alloc _).set_ 3 _
  have hR4 : Blk ((w3.alloc (.cells #[.int .i64 (min (a : Int) (q : Int)), .int .i64 (max (a : Int) (q : Int))] 3)).setCell ⟨w.heap.size, 3, none⟩ (.slice (some ⟨w3.heap.size, 0, none⟩) 2 2)) (w.heap.size + 1) 195 #[.int .i64 0, .int .i64 0, .string ⟨#[]⟩, .slice none 0 0] := (hR3.alloc _).far (by simp) _
  have hN4 : Blk ((w3.alloc (.cells #[.int .i64 (min (a : Int) (q : Int)), .int .i64 (max (a : Int) (q : Int))] 3)).setCell ⟨w.heap.size, 3, none⟩ (.slice (some ⟨w3.heap.size, 0, none⟩) 2 2)) w3.heap.size 3 #[.int .i64 (min (a : Int) (q : Int)), .int .i64 (max (a : Int) (q : Int))] := hN.far (by have := hX3.lt; simp; omega) _
  have b4 : Below w.heap.size w ((w3.alloc (.cells #[.int .i64 (min (a : Int) (q : Int)), .int .i64 (max (a : Int) (q : Int))] 3)).setCell ⟨w.heap.size, 3, none⟩ (.slice (some ⟨w3.heap.size, 0, none⟩) 2 2)) := (b3.alloc b3.size _).setCell (Nat.le_refl _) _
  obtain ⟨w4, hw4⟩ : ∃ w4, w4 = (w3.alloc (.cells #[.int .i64 (min (a : Int) (q : Int)), .int .i64 (max (a : Int) (q : Int))] 3)).setCell ⟨w.heap.size, 3, none⟩ (.slice (some ⟨w3.heap.size, 0, none⟩) 2 2) := ⟨_, rfl⟩
  rw [← hw4] at hX4 hR4 hN4 b4
  have HW4 : Hid (w4 = (w3.alloc (.cells #[.int .i64 (min (a : Int) (q : Int)), .int .i64 (max (a : Int) (q : Int))] 3)).setCell ⟨w.heap.size, 3, none⟩ (.slice (some ⟨w3.heap.size, 0, none⟩) 2 2)) := hw4
  have XF' : (w3.alloc (.cells #[.int .i64 (min (a : Int) (q : Int)), .int .i64 (max (a : Int) (q : Int))] 3)).frozen? ⟨w.heap.size, 3, none⟩ = false := (hX3.alloc _).frozen 3
  have X3' : (w3.alloc (.cells #[.int .i64 (min (a : Int) (q : Int)), .int .i64 (max (a : Int) (q : Int))] 3)).cell? ⟨w.heap.size, 3, none⟩ = some (.slice (some ⟨gp, 0, none⟩) 2 cp) := (hX3.alloc _).cell 3
  clear hw4 hw3 b2 hX2 hR2 P0 P3 D4 D5 hR3 hX3 hN b3
  go_upto_region 7 with (fail)
  rw [← HW4.out]
  have X0 : w4.cell? ⟨w.heap.size, 0, none⟩ = some (.int .i64 4) := hX4.cell 0
  have X1 : w4.cell? ⟨w.heap.size, 1, none⟩ = some (.int .i64 0) := hX4.cell 1
  have X2 : w4.cell? ⟨w.heap.size, 2, none⟩ = some (.string (bs l)) := hX4.cell 2
  have X3 : w4.cell? ⟨w.heap.size, 3, none⟩ = some (.slice (some ⟨w3.heap.size, 0, none⟩) 2 2) := hX4.cell 3
  have R0 : w4.cell? ⟨w.heap.size + 1, 0, none⟩ = some (.int .i64 0) := hR4.cell 0
  have R1 : w4.cell? ⟨w.heap.size + 1, 1, none⟩ = some (.int .i64 0) := hR4.cell 1
  have R2 : w4.cell? ⟨w.heap.size + 1, 2, none⟩ = some (.string ⟨#[]⟩) := hR4.cell 2
  have R3 : w4.cell? ⟨w.heap.size + 1, 3, none⟩ = some (.slice none 0 0) := hR4.cell 3
  have FR0 : w4.frozen? ⟨w.heap.size + 1, 0, none⟩ = false := hR4.frozen 0
  have FR1 : w4.frozen? ⟨w.heap.size + 1, 1, none⟩ = false := hR4.frozen 1
  have FR2 : w4.frozen? ⟨w.heap.size + 1, 2, none⟩ = false := hR4.frozen 2
  have FR3 : w4.frozen? ⟨w.heap.size + 1, 3, none⟩ = false := hR4.frozen 3
  clear XF XF' X3'
  go_wp2_with fail
  have hR5 : Blk ((((w4.setCell ⟨w.heap.size + 1, 0, none⟩ (.int .i64 4)).setCell ⟨w.heap.size + 1, 1, none⟩ (.int .i64 0)).setCell ⟨w.heap.size + 1, 2, none⟩ (.string (bs l))).setCell ⟨w.heap.size + 1, 3, none⟩ (.slice (some ⟨w3.heap.size, 0, none⟩) 2 2)) (w.heap.size + 1) 195 #[.int .i64 4, .int .i64 0, .string (bs l), .slice (some ⟨w3.heap.size, 0, none⟩) 2 2] := (((hR4.set_ 0 _).set_ 1 _).set_ 2 _).set_ 3 _
  have hN5 : Blk ((((w4.setCell ⟨w.heap.size + 1, 0, none⟩ (.int .i64 4)).setCell ⟨w.heap.size + 1, 1, none⟩ (.int .i64 0)).setCell ⟨w.heap.size + 1, 2, none⟩ (.string (bs l))).setCell ⟨w.heap.size + 1, 3, none⟩ (.slice (some ⟨w3.heap.size, 0, none⟩) 2 2)) w3.heap.size 3 #[.int .i64 (min (a : Int) (q : Int)), .int .i64 (max (a : Int) (q : Int))] := by
    have hne : w3.heap.size ≠ w.heap.size + 1 := by
      rintro e
      have h := hN4
      rw [e] at h
      exact absurd (Option.some.inj (h.symm.trans hR4)) (by simp)
    exact (((hN4.far hne _).far hne _).far hne _).far hne _
  have b5 : Below w.heap.size w ((((w4.setCell ⟨w.heap.size + 1, 0, none⟩ (.int .i64 4)).setCell ⟨w.heap.size + 1, 1, none⟩ (.int .i64 0)).setCell ⟨w.heap.size + 1, 2, none⟩ (.string (bs l))).setCell ⟨w.heap.size + 1, 3, none⟩ (.slice (some ⟨w3.heap.size, 0, none⟩) 2 2)) := by
    have hle : w.heap.size ≤ w.heap.size + 1 := by omega
    exact (((b4.setCell hle _).setCell hle _).setCell hle _).setCell hle _
  refine bodyPost_ret (results_cell_row rfl _ _ (w.heap.size + 1) 195 _ (0, 0) _ rfl hR5 Tryz.underlying195 rfl madeInfo) rfl ?_
  refine ⟨_, rfl, ⟨rfl, .inr ⟨w3.heap.size, 2, _, rfl, HB3.out, hN5, by omega, by unfold maxLen; omega, rfl, ?_⟩⟩, b5⟩
  have e1 : ((min a q : Nat) : Int) = min (a : Int) (q : Int) := by omega
  have e2 : ((max a q : Nat) : Int) = max (a : Int) (q : Int) := by omega
  rw [e1, e2]
  rfl
end Go.Proofs.YtipehnojibdfeaaGreat

/- the table of terms: what Make's closure makes. -/
namespace Go.Proofs.YtipehnojibdfeaaGreat
open Go Go.Proofs Go.RowKit

def notMI : Obj → Prop
  | .cells _ ty _ => ty ≠ 3 ∧ ty ≠ 195
  | _ => True
theorem TableAt.keep {w w' : World} {base t M : Nat} {T : List Node} {names : Nat} (h : TableAt w base t M T names) (hb : Below M w w') (hf : Far notMI w w') : TableAt w' base t M T names := by
  obtain ⟨lv, xs, m, D, a1, a2, a3, a4, a5, a6, a7, a8⟩ := h
  exact ⟨lv, xs, m, D, a1.far_ hf ⟨by decide, by decide⟩, ownsRow_far a2 hf (fun _ => ⟨by decide, by decide⟩), a3, a4, ownsMap_far a5 hf (fun _ _ => trivial), a6, fun i x hx => by
    obtain ⟨v, hv, hn⟩ := a7 i x hx
    exact ⟨v, hv, hn.below hb⟩, a8⟩
theorem TableAt.mono {w : World} {base t M M' : Nat} {T : List Node} {names : Nat} (h : TableAt w base t M T names) (hM : M ≤ M') : TableAt w base t M' T names := by
  obtain ⟨lv, xs, m, D, a1, a2, a3, a4, a5, a6, a7, a8⟩ := h
  exact ⟨lv, xs, m, D, a1, a2, a3, a4, a5, a6, fun i x hx => by
    obtain ⟨v, hv, hn⟩ := a7 i x hx
    exact ⟨v, hv, hn.mono hM⟩, a8⟩
theorem TF.grown_new {base : Nat} {w a b : World} {g : Nat} (h : TF base w a) (hg : a.grownBy b (some g)) (hn : w.heap.size ≤ g) (hb : base ≤ w.heap.size) : TF base w b := by
  refine ⟨⟨hg.os.trans h.1.os, hg.tape.trans h.1.tape, hg.output.trans h.1.output, Nat.le_trans h.1.size hg.size, fun i hi => (hg.block i (by have := h.1.size; omega) (fun e => by have := Option.some.inj e; omega)).trans (h.1.block i hi)⟩, fun i o ho hq => ?_⟩
  have hi : i < w.heap.size := (Array.getElem?_eq_some_iff.1 ho).1
  exact (hg.block i (by have := h.1.size; omega) (fun e => by have := Option.some.inj e; omega)).trans (h.2 i o ho hq)

theorem putN_length (T : List Node) (x : Node) : (putN T x).1.length ≤ T.length + 1 ∧ (putN T x).2 ≤ T.length := by
  unfold putN
  cases hf : findN T x.key with
  | some i => obtain ⟨y, hy, _⟩ := findN_lt hf; have := (List.getElem?_eq_some_iff.1 hy).1; simp only; omega
  | none => simp
theorem partN_length (T : List Node) (s : List UInt8) : (partN T s).1.length ≤ T.length + 1 ∧ (partN T s).2 ≤ T.length := by
  unfold partN
  cases hn : numOf T.length s with
  | some n => have := numOf_lt hn; simp only; omega
  | none => exact putN_length _ _
theorem partsN_snoc (ss : List (List UInt8)) (s : List UInt8) : ∀ T ps, partsN T ps (ss ++ [s]) = ((partN (partsN T ps ss).1 s).1, (partsN T ps ss).2 ++ [(partN (partsN T ps ss).1 s).2]) := by
  induction ss with
  | nil => intro T ps; rfl
  | cons a r ih => intro T ps; exact ih _ _
theorem partsN_length (ss : List (List UInt8)) : ∀ T ps, (partsN T ps ss).1.length ≤ T.length + ss.length ∧ (partsN T ps ss).2.length = ps.length + ss.length ∧ ((∀ p ∈ ps, p ≤ T.length) → ∀ p ∈ (partsN T ps ss).2, p ≤ T.length + ss.length) := by
  induction ss with
  | nil => intro T ps; exact ⟨Nat.le_refl _, rfl, fun h p hp => by have := h p hp; simpa using this⟩
  | cons a r ih =>
    intro T ps
    obtain ⟨h1, h2, h3⟩ := ih (partN T a).1 (ps ++ [(partN T a).2])
    have hl := partN_length T a
    refine ⟨?_, ?_, ?_⟩
    · show (partsN (partN T a).1 (ps ++ [(partN T a).2]) r).1.length ≤ _
      simp only [List.length_cons]; omega
    · show (partsN (partN T a).1 (ps ++ [(partN T a).2]) r).2.length = _
      rw [h2]; simp; omega
    · intro hp p hpm
      have h4 : ∀ p ∈ (partsN (partN T a).1 (ps ++ [(partN T a).2]) r).2, p ≤ T.length + 1 + r.length := by
        intro p hpm
        rcases Nat.lt_or_ge T.length (partN T a).1.length with hlt | hge
        · have := h3 (fun p hp' => by
            rcases List.mem_append.1 hp' with h | h
            · have := hp p h; omega
            · simp at h; omega) p hpm
          omega
        · have hT : (partN T a).1.length = T.length := by
            have : T.length ≤ (partN T a).1.length := by
              unfold partN
              cases numOf T.length a with
              | some n => exact Nat.le_refl _
              | none =>
                unfold putN
                cases findN T (Node.data a).key with
                | some i => exact Nat.le_refl _
                | none => simp
            omega
          have := h3 (fun p hp' => by
            rcases List.mem_append.1 hp' with h | h
            · have := hp p h; omega
            · simp at h; omega) p hpm
          omega
      have := h4 p hpm
      simp only [List.length_cons]; omega
/-- a slice of texts that lies at the head of a block -/
def StrRow (w : World) (A : Option Addr) (ss : List (List UInt8)) : Prop :=
  ss = [] ∨ ∃ g cs mk, A = some ⟨g, 0, none⟩ ∧ w.heap[g]? = some (.cells cs 9 mk) ∧ ∀ (j : Nat) s, ss[j]? = some s → cs[j]? = some (.string (bs s))
theorem StrRow.far_ {w w' : World} {A : Option Addr} {ss : List (List UInt8)} {Q : Obj → Prop} (h : StrRow w A ss) (hf : Far Q w w') (hq : ∀ cs mk, Q (.cells cs 9 mk)) : StrRow w' A ss := by
  rcases h with h | ⟨g, cs, mk, e1, e2, e3⟩
  · exact .inl h
  · exact .inr ⟨g, cs, mk, e1, hf g _ e2 (hq _ _), e3⟩
theorem intInfo0 : ((Tryz.prog.info? 3).map fun i => (i.size, i.bytes, i.zero.map (·.cells.size))) = some (1, 8, some 1) := by kernel_rfl
theorem intInfo : ∃ i z, Tryz.prog.info? 3 = some i ∧ i.zero = some z ∧ i.size = 1 ∧ i.bytes = 8 ∧ z.cells.size = 1 := by
  have h := intInfo0
  cases hi : Tryz.prog.info? 3 with
  | none => rw [hi] at h; simp at h
  | some i =>
    rw [hi] at h
    simp at h
    obtain ⟨h1, h2, z, hz, h3⟩ := h
    exact ⟨i, z, rfl, hz, h1, h2, h3⟩
def intL (ps : List Nat) : List Value := ps.map fun (p : Nat) => .int .i64 (p : Int)

theorem make2_step {w wr w3 w5 : World} {base t k : Nat} {T2 : List Node} {names : Nat} {cells : Array Value} {pv pv' : Value} {xs xs' : List Value} {u : Value} {m : Nat} (hb : base ≤ w.heap.size) (q : TF base w wr) (q3 : TF base wr.drew w3) (hT3 : TableAt w3 base t w.heap.size T2 names)
    (hO4 : (w3.alloc (.cells #[u] 3)).ownsRow w.heap.size 3 1 pv k xs) (hg : (w3.alloc (.cells #[u] 3)).grownBy w5 pv.ownBlock) (hO5 : w5.ownsRow w.heap.size 3 1 pv' m xs') (hX5 : Blk w5 w.heap.size 195 cells) :
    (w5.setCell ⟨w.heap.size, 3, none⟩ pv').ownsRow w.heap.size 3 1 pv' m xs' ∧ TableAt (w5.setCell ⟨w.heap.size, 3, none⟩ pv') base t w.heap.size T2 names ∧ TF base w (w5.setCell ⟨w.heap.size, 3, none⟩ pv') := by
  have q3' : TF base w w3 := q.trans ⟨⟨q3.1.os, q3.1.tape, q3.1.output, q3.1.size, q3.1.block⟩, q3.2⟩
  have hT4 := hT3.later ((Below.refl w3.heap.size w3).alloc (Nat.le_refl _) (.cells #[u] 3))
  have hge : ∀ i, pv.ownBlock = some i → w.heap.size ≤ i := fun i h => hO4.ownBlock_ge h
  have hb45 : Below w.heap.size (w3.alloc (.cells #[u] 3)) w5 := ⟨hg.os, hg.tape, hg.output, hg.size, fun i hi => hg.block i (by have := q3'.1.size; rw [World.size_alloc]; omega) (fun e => by have := hge i e.symm; omega)⟩
  have hf45 : Far notMI (w3.alloc (.cells #[u] 3)) w5 := Far.of_grown hg (fun i o h ho => by
    obtain ⟨cs, e⟩ := ownsRow_obj hO4 h ho
    rw [e]; exact fun h => h.1 rfl)
  have hT5 := hT4.keep hb45 hf45
  have hb56 : Below w.heap.size w5 (w5.setCell ⟨w.heap.size, 3, none⟩ pv') := (Below.refl w.heap.size w5).setCell (Nat.le_refl _) _
  have hf56 : Far notMI w5 (w5.setCell ⟨w.heap.size, 3, none⟩ pv') := Far.of_grown (grownBy_set (grownBy_refl w5 (some w.heap.size)) pv') (fun i o h ho => by
    cases h
    rw [hX5] at ho; cases ho; exact fun h => h.2 rfl)
  have hne : pv'.ownBlock ≠ some w.heap.size := own_blk_ne hO5 hX5 (by decide)
  refine ⟨hO5.kept (grownBy_set (grownBy_refl _ _) _) (.inr hne), hT5.keep hb56 hf56, ?_⟩
  have hbw : Below w.heap.size w3 (w5.setCell ⟨w.heap.size, 3, none⟩ pv') := (((Below.refl w3.heap.size w3).alloc (Nat.le_refl _) (.cells #[u] 3)).mono q3'.1.size).trans (hb45.trans hb56)
  refine ⟨q3'.1.trans (hbw.mono hb), fun i o ho hq => ?_⟩
  have hi : i < w.heap.size := (Array.getElem?_eq_some_iff.1 ho).1
  exact (hbw.block i hi).trans (q3'.2 i o ho hq)
theorem ownsRow_base {w : World} {base base' : Nat} {e : TypeId} {size n : Nat} {v : Value} {xs : List Value} (h : w.ownsRow base e size v n xs) (hb : base' ≤ base) : w.ownsRow base' e size v n xs := by
  refine ⟨h.1, ?_⟩
  rcases h.2 with h | ⟨g, cap, cur, e1, e2, r⟩
  · exact .inl h
  · exact .inr ⟨g, cap, cur, e1, Nat.le_trans hb e2, r⟩
theorem news_one (w : World) (e : TypeId) (u0 : Value) : ∀ (j : Nat) (u : Value), [u0][j]? = some u → (w.alloc (.cells #[u0] e)).cell? ((⟨w.heap.size, 0, none⟩ : Addr).add j) = some u := by
  intro j u hj
  match j, hj with
  | 0, hj => simp at hj; subst hj; exact (Blk.new w _ _).cell 0
theorem one_int (n : Nat) : ∀ u ∈ [Value.int .i64 (n : Int)], u.oneCell' = true := by intro u hu; simp at hu; subst hu; rfl
theorem le_alloc {n : Nat} {w : World} (h : n ≤ w.heap.size) (o : Obj) : n ≤ (w.alloc o).heap.size := by rw [World.size_alloc]; omega
set_option maxRecDepth 100000 in
set_option maxHeartbeats 4000000 in
theorem make2_loop (w : World) (base t : Nat) (T : List Node) (names : Nat) (hT : TableAt w base t w.heap.size T names) (hb : base ≤ w.heap.size) (hlen : T.length ≤ 60000) (kind : Nat) (hkind : kind < 256) (label : List UInt8) (hlabel : label.length ≤ 100000) (ss : List (List UInt8)) (hss : ss.length ≤ 1000) (hk6 : kind = 6 → ss.length = 4) (hk3 : kind = 3 → ss.length = 1) (hk4 : kind = 4 → ∃ a b q n2 l2, (partsN T [] ss).2 = [a, b] ∧ (partsN T [] ss).1[b]? = some (.made 3 n2 l2 [q]) ∧ q ≤ 65536) (hsl : ∀ s ∈ ss, s.length ≤ 65536) (ck cl cp ct : Nat) (A : Option Addr) (c : Nat)
    (hA : StrRow w A ss) (hck : Blk w ck 3 #[.int .i64 (kind : Int)]) (hcl : Blk w cl 9 #[.string (bs label)]) (hcp : Blk w cp 38 #[.slice A ss.length c]) (hct : Blk w ct 54 #[.pointer (some ⟨t, 0, none⟩)]) :
    Calls Tryz.prog 142 #[.pointer (some ⟨ck, 0, none⟩), .pointer (some ⟨cl, 0, none⟩), .pointer (some ⟨cp, 0, none⟩), .pointer (some ⟨ct, 0, none⟩)] w fun e w' => e = .returned (.int .i64 ((makeN T kind label ss).2 : Int)) ∧ TableAt w' base t w'.heap.size (makeN T kind label ss).1 names ∧ TF base w w' := by
  have K0 : w.cell? ⟨ck, 0, none⟩ = some (.int .i64 (kind : Int)) := hck.cell 0
  have L0 : w.cell? ⟨cl, 0, none⟩ = some (.string (bs label)) := hcl.cell 0
  have P0 : w.cell? ⟨cp, 0, none⟩ = some (.slice A ss.length c) := hcp.cell 0
  obtain ⟨iI, zI, hiI, hzI, hsI, hbyI, hzsI⟩ := intInfo
  have HINFO : Hid (Tryz.prog.info? 3 = some iI ∧ iI.zero = some zI ∧ iI.size = 1 ∧ iI.bytes = 8 ∧ zI.cells.size = 1) := ⟨hiI, hzI, hsI, hbyI, hzsI⟩
  clear hiI hzI hsI hbyI hzsI
  obtain ⟨w1, hw1⟩ : ∃ w1, w1 = w.alloc (.cells #[.int .i64 (kind : Int), .int .i64 0, .string (bs label), .slice none 0 0] 195) := ⟨_, rfl⟩
  have b1 : Below w.heap.size w w1 := by rw [hw1]; exact (Below.refl _ _).alloc (Nat.le_refl _) _
  have hX1 : Blk w1 w.heap.size 195 #[.int .i64 (kind : Int), .int .i64 0, .string (bs label), .slice none 0 0] := by rw [hw1]; exact Blk.new _ _ _
  have P1 : (w.alloc (.cells #[.int .i64 (kind : Int), .int .i64 0, .string (bs label), .slice none 0 0] 195)).cell? ⟨cp, 0, none⟩ = some (.slice A ss.length c) := by rw [← hw1]; exact Below.cell_some b1 P0
  have HW1 : Hid (w1 = w.alloc (.cells #[.int .i64 (kind : Int), .int .i64 0, .string (bs label), .slice none 0 0] 195)) := hw1
  clear hw1
  go_enter Tryz.func142, Tryz.ntmps142
  go_wp2_with fail
  rw [← HW1.out]
  clear HW1 P1
  go_loopw [13] (fun i wr => ∃ k : Nat, k ≤ ss.length ∧ i = .int .i64 k ∧ ∃ pv, Blk wr w.heap.size 195 #[.int .i64 (kind : Int), .int .i64 0, .string (bs label), pv] ∧ wr.ownsRow w.heap.size 3 1 pv k (intL (partsN T [] (ss.take k)).2) ∧ TableAt wr base t w.heap.size (partsN T [] (ss.take k)).1 names ∧ TF base w wr) (fun i _ => ss.length - (intOf i).toNat)
  case atStart => exact ⟨0, by omega, rfl, _, hX1, World.ownsRow_nil _ _ _ _, hT.later b1, TF.of_below b1 hb⟩
  case round =>
    clear hX1 b1 P0
    obtain ⟨k, hk, rfl, pv, hX, hO, hTr, q⟩ := hrel
    obtain ⟨T1, hT1⟩ : ∃ T1, T1 = (partsN T [] (ss.take k)).1 := ⟨_, rfl⟩
    obtain ⟨ps1, hps1⟩ : ∃ ps1, ps1 = (partsN T [] (ss.take k)).2 := ⟨_, rfl⟩
    have hpl := partsN_length (ss.take k) T []
    have htk : (ss.take k).length ≤ 1000 := by rw [List.length_take]; omega
    rw [← hT1] at hTr hpl
    rw [← hps1] at hO hpl
    obtain ⟨hpl1, hpl2, _⟩ := hpl
    have hK : Blk wr ck 3 #[.int .i64 (kind : Int)] := hck.far_ q.2 ⟨by decide, by decide⟩
    have hCt : Blk wr ct 54 #[.pointer (some ⟨t, 0, none⟩)] := hct.far_ q.2 ⟨by decide, by decide⟩
    have K0 : wr.cell? ⟨ck, 0, none⟩ = some (.int .i64 (kind : Int)) := hK.cell 0
    have T0 : wr.cell? ⟨ct, 0, none⟩ = some (.pointer (some ⟨t, 0, none⟩)) := hCt.cell 0
    by_cases hkn : k < ss.length
    · have hkd : decide ((k : Int) < (ss.length : Int)) = true := by simp; omega
      have hA2 := hA.far_ q.2 (fun _ _ => ⟨by decide, by decide⟩)
      rcases hA2 with h0 | ⟨g, cs, mk, e1, e2, e3⟩
      · rw [h0] at hkn; simp at hkn
      subst e1
      have S0 : wr.cell? ⟨g, k, none⟩ = some (.string (bs ss[k])) := (cell_of_row wr g k cs 9 mk e2).trans (e3 k _ (List.getElem?_eq_getElem hkn))
      have X3 : wr.cell? ⟨w.heap.size, 3, none⟩ = some pv := hX.cell 3
      obtain ⟨Ap, cpv, hpv⟩ := ownsRow_slice hO
      subst hpv
      have hTd : TableAt wr.drew base t w.heap.size T1 names := hTr
      have hpart := termPart_any wr.drew base t w.heap.size T1 names hTd (Nat.le_trans hb q.1.size) (by omega) ss[k] (by have := hsl _ (List.getElem_mem hkn); omega)
      obtain ⟨s, hs⟩ : ∃ s, s = bs ss[k] := ⟨_, rfl⟩
      rw [← hs] at S0 hpart
      have hpl3 := partN_length T1 ss[k]
      obtain ⟨n, hn⟩ : ∃ n, n = (partN T1 ss[k]).2 := ⟨_, rfl⟩
      rw [← hn] at hpart hpl3
      obtain ⟨hiI, hzI, hsI, hbyI, hzsI⟩ := HINFO.out
      have HFIN : Hid ((partsN T [] (ss.take (k + 1))) = ((partN T1 ss[k]).1, ps1 ++ [n])) := by
        show partsN T [] (ss.take (k + 1)) = _
        rw [List.take_succ_eq_append_getElem hkn, partsN_snoc, ← hT1, ← hps1, ← hn]
      have HT : Hid (TableAt wr base t w.heap.size T1 names) := hTr
      have HO := hO
      have HX := hX
      clear hs hn hT1 hps1 hA e2 e3 K0 hK hTr hTd
      go_wp2_with fail
      go_region_law (first
        | (refine step_append_own rfl (.tmp 18) (.tmp 22) 179 rfl w.heap.size 3 iI zI 1 8 Tryz.underlying179 hiI hzI hsI hbyI hzsI (by decide) _ k _ rfl hO4 ⟨_, 0, none⟩ 1 1 [.int .i64 (n : Int)] rfl rfl hnews h1c (by unfold maxLen; omega) (by omega) hbw ?_; intro v' w5 hv' hg'; have hX5 := hX4.grown hg' (fun h => own_blk_ne hO4 hX4 (by decide) h.symm); have X53 : w5.cell? ⟨w.heap.size, 3, none⟩ = _ := hX5.cell 3; have X5F : w5.frozen? ⟨w.heap.size, 3, none⟩ = false := hX5.frozen 3; obtain ⟨A5, c5, hv5⟩ := ownsRow_slice hv'; subst hv5)
        | (go_simp; go_at_call 143; refine hpart.mono ?_; rintro e w3 ⟨rfl, hT3, q3⟩; have hX3 := hX.far_ q3.2 ⟨by decide, by decide⟩; have X33 : w3.cell? ⟨w.heap.size, 3, none⟩ = _ := hX3.cell 3; have hO3 := ownsRow_far hO q3.2 (fun _ => ⟨by decide, by decide⟩); have hO4 := hO3.alloc (.cells #[.int .i64 (n : Int)] 3); have hX4 := hX3.alloc (.cells #[.int .i64 (n : Int)] 3); have X43 : (w3.alloc (.cells #[.int .i64 (n : Int)] 3)).cell? ⟨w.heap.size, 3, none⟩ = _ := hX4.cell 3; have hnews := news_one w3 3 (.int .i64 (n : Int)); have h1c : ∀ u ∈ [Value.int .i64 (n : Int)], u.oneCell' = true := one_int n; have hbw : w.heap.size ≤ (w3.alloc (.cells #[.int .i64 (n : Int)] 3)).heap.size := le_alloc (Nat.le_trans q.1.size q3.1.size) _))
      all_goals (
        obtain ⟨s1, s2, s3⟩ := make2_step hb q q3 hT3 hO4 hg' hv' hX5
        have hX6 := hX5.set_ 3 (.slice A5 (k + 1) c5)
        clear hX4 X43 X53 X5F X33 hX3 hO3 hO4 hX5 hg' hT3
        go_wp2
        go_roundw)
      all_goals first
        | exact ⟨k + 1, by omega, by go_num, _, hX6, by rw [HFIN.out]; simpa [intL] using s1, by rw [HFIN.out]; exact s2, s3⟩
        | (simp [intOf]; omega)
    · obtain rfl : k = ss.length := by omega
      rw [List.take_length] at hT1 hps1 hpl1 hpl2
      have hkd : decide ((ss.length : Int) < (ss.length : Int)) = false := by simp
      have hsmall := (partsN_length ss T []).2.2 (by simp)
      rw [← hps1] at hsmall
      have hps2 : ps1.length = ss.length := by rw [hpl2]; simp
      have hO2 : wr.ownsRow base 3 1 pv ps1.length (intL ps1) := by rw [hps2]; exact ownsRow_base hO hb
      have X0 : wr.cell? ⟨w.heap.size, 0, none⟩ = some (.int .i64 (kind : Int)) := hX.cell 0
      have X1 : wr.cell? ⟨w.heap.size, 1, none⟩ = some (.int .i64 0) := hX.cell 1
      have X2 : wr.cell? ⟨w.heap.size, 2, none⟩ = some (.string (bs label)) := hX.cell 2
      have X3 : wr.cell? ⟨w.heap.size, 3, none⟩ = some pv := hX.cell 3
      have hwb : base ≤ wr.heap.size := Nat.le_trans hb q.1.size
      have hTm := hTr.mono q.1.size
      have hmk : makeN T kind label ss = putN T1 (madeN T1 kind label ps1) := by rw [hT1, hps1]; rfl
      have hlT : T1.length ≤ 100000 := by omega
      have HTR : Hid (TableAt wr base t w.heap.size T1 names) := hTr
      by_cases h4 : kind = 4
      · obtain ⟨pa, pb, pq, n2, l2, hps, hpub, hpq⟩ := hk4 h4
        rw [← hps1] at hps
        rw [← hT1] at hpub
        subst h4
        have hk4d : (((4 : Nat) : Int) == 4) = true := by decide
        have hpa := hsmall pa (by rw [hps]; simp)
        have hmd : madeN T1 4 label ps1 = .made 4 0 label [min pa pq, max pa pq] := by
          unfold madeN sharedN
          rw [if_pos rfl, hps]
          simp only [List.getElem?_cons_succ, List.getElem?_cons_zero, Option.getD_some, hpub]
        rw [hmd] at hmk
        rw [hps] at hO2
        have hsh := shared_any wr base t w.heap.size T1 names hTr hlT pa pb pq n2 label l2 hpub (by omega) hpq hwb pv hO2
        have HMK : Hid (makeN T 4 label ss = putN T1 (.made 4 0 label [min pa pq, max pa pq])) := hmk
        have X0' : wr.cell? ⟨w.heap.size, 0, none⟩ = some (.int .i64 4) := hX.cell 0
        have K0' : wr.cell? ⟨ck, 0, none⟩ = some (.int .i64 4) := hK.cell 0
        clear hmk hmd hpl1 hpl2 hps2 hO hTr hT1 hps1 hsmall hA X0 K0 hpub hTm
        have HT : Hid (TableAt wr base t w.heap.size T1 names) := HTR.out
        go_wp2_with fail
        refine hsh.mono ?_
        rintro e w7 ⟨pv7, rfl, hO7, b7⟩
        clear hsh
        have hX7 := hX.later b7
        have hCt7 := hCt.later b7
        obtain ⟨A7, c7, hpv7⟩ := ownsRow_slice hO7
        subst hpv7
        have Y0 : w7.cell? ⟨w.heap.size, 0, none⟩ = some (.int .i64 4) := hX7.cell 0
        have Y1 : w7.cell? ⟨w.heap.size, 1, none⟩ = some (.int .i64 0) := hX7.cell 1
        have Y2 : w7.cell? ⟨w.heap.size, 2, none⟩ = some (.string (bs label)) := hX7.cell 2
        have Y3 : w7.cell? ⟨w.heap.size, 3, none⟩ = some pv := hX7.cell 3
        have F0 : w7.frozen? ⟨w.heap.size, 0, none⟩ = false := hX7.frozen 0
        have F1 : w7.frozen? ⟨w.heap.size, 1, none⟩ = false := hX7.frozen 1
        have F2 : w7.frozen? ⟨w.heap.size, 2, none⟩ = false := hX7.frozen 2
        have F3 : w7.frozen? ⟨w.heap.size, 3, none⟩ = false := hX7.frozen 3
        have T7 : w7.cell? ⟨ct, 0, none⟩ = some (.pointer (some ⟨t, 0, none⟩)) := hCt7.cell 0
        have hX8 : Blk ((((w7.setCell ⟨w.heap.size, 0, none⟩ (.int .i64 4)).setCell ⟨w.heap.size, 1, none⟩ (.int .i64 0)).setCell ⟨w.heap.size, 2, none⟩ (.string (bs label))).setCell ⟨w.heap.size, 3, none⟩ (.slice A7 2 c7)) w.heap.size 195 #[.int .i64 4, .int .i64 0, .string (bs label), .slice A7 2 c7] := (((hX7.set_ 0 _).set_ 1 _).set_ 2 _).set_ 3 _
        have hne : ct ≠ w.heap.size := hCt7.ne_ hX7 (by decide)
        have hCt8 : Blk ((((w7.setCell ⟨w.heap.size, 0, none⟩ (.int .i64 4)).setCell ⟨w.heap.size, 1, none⟩ (.int .i64 0)).setCell ⟨w.heap.size, 2, none⟩ (.string (bs label))).setCell ⟨w.heap.size, 3, none⟩ (.slice A7 2 c7)) ct 54 #[.pointer (some ⟨t, 0, none⟩)] := (((hCt7.far hne _).far hne _).far hne _).far hne _
        have hg8 : w7.grownBy ((((w7.setCell ⟨w.heap.size, 0, none⟩ (.int .i64 4)).setCell ⟨w.heap.size, 1, none⟩ (.int .i64 0)).setCell ⟨w.heap.size, 2, none⟩ (.string (bs label))).setCell ⟨w.heap.size, 3, none⟩ (.slice A7 2 c7)) (some w.heap.size) := grownBy_set (grownBy_set (grownBy_set (grownBy_set (grownBy_refl _ _) _) _) _) _
        obtain ⟨w8, hw8⟩ : ∃ w8, w8 = ((((w7.setCell ⟨w.heap.size, 0, none⟩ (.int .i64 4)).setCell ⟨w.heap.size, 1, none⟩ (.int .i64 0)).setCell ⟨w.heap.size, 2, none⟩ (.string (bs label))).setCell ⟨w.heap.size, 3, none⟩ (.slice A7 2 c7)) := ⟨_, rfl⟩
        have HW8 : Hid (w8 = ((((w7.setCell ⟨w.heap.size, 0, none⟩ (.int .i64 4)).setCell ⟨w.heap.size, 1, none⟩ (.int .i64 0)).setCell ⟨w.heap.size, 2, none⟩ (.string (bs label))).setCell ⟨w.heap.size, 3, none⟩ (.slice A7 2 c7))) := hw8
        have T8 : ((((w7.setCell ⟨w.heap.size, 0, none⟩ (.int .i64 4)).setCell ⟨w.heap.size, 1, none⟩ (.int .i64 0)).setCell ⟨w.heap.size, 2, none⟩ (.string (bs label))).setCell ⟨w.heap.size, 3, none⟩ (.slice A7 2 c7)).cell? ⟨ct, 0, none⟩ = some (.pointer (some ⟨t, 0, none⟩)) := hCt8.cell 0
        have Z0 : ((((w7.setCell ⟨w.heap.size, 0, none⟩ (.int .i64 4)).setCell ⟨w.heap.size, 1, none⟩ (.int .i64 0)).setCell ⟨w.heap.size, 2, none⟩ (.string (bs label))).setCell ⟨w.heap.size, 3, none⟩ (.slice A7 2 c7)).cell? ⟨w.heap.size, 0, none⟩ = some (.int .i64 4) := hX8.cell 0
        have Z1 : ((((w7.setCell ⟨w.heap.size, 0, none⟩ (.int .i64 4)).setCell ⟨w.heap.size, 1, none⟩ (.int .i64 0)).setCell ⟨w.heap.size, 2, none⟩ (.string (bs label))).setCell ⟨w.heap.size, 3, none⟩ (.slice A7 2 c7)).cell? ⟨w.heap.size, 1, none⟩ = some (.int .i64 0) := hX8.cell 1
        have Z2 : ((((w7.setCell ⟨w.heap.size, 0, none⟩ (.int .i64 4)).setCell ⟨w.heap.size, 1, none⟩ (.int .i64 0)).setCell ⟨w.heap.size, 2, none⟩ (.string (bs label))).setCell ⟨w.heap.size, 3, none⟩ (.slice A7 2 c7)).cell? ⟨w.heap.size, 2, none⟩ = some (.string (bs label)) := hX8.cell 2
        have Z3 : ((((w7.setCell ⟨w.heap.size, 0, none⟩ (.int .i64 4)).setCell ⟨w.heap.size, 1, none⟩ (.int .i64 0)).setCell ⟨w.heap.size, 2, none⟩ (.string (bs label))).setCell ⟨w.heap.size, 3, none⟩ (.slice A7 2 c7)).cell? ⟨w.heap.size, 3, none⟩ = some (.slice A7 2 c7) := hX8.cell 3
        rw [← hw8] at hX8 hg8
        have q7 : TF base w w7 := q.trans (TF.of_below b7 hwb)
        have q8 : TF base w w8 := TF.grown_new q7 hg8 (Nat.le_refl _) hb
        have hb78 : Below w.heap.size w7 w8 := below_of_grownBy hg8 (Nat.le_refl _) q7.1.size
        have hf78 : Far notMI w7 w8 := Far.of_grown hg8 (fun i o h ho => by
          cases h
          rw [hX7] at ho; cases ho; exact fun h => h.2 rfl)
        have hT8 := ((HT.out.later b7).keep hb78 hf78).mono q8.1.size
        have hO8 : w8.ownsRow base 3 1 (.slice A7 2 c7) 2 [.int .i64 ((min pa pq : Nat) : Int), .int .i64 ((max pa pq : Nat) : Int)] := hO7.kept hg8 (.inr (own_blk_ne hO7 hX7 (by decide)))
        have hb8 : base ≤ w8.heap.size := Nat.le_trans hb q8.1.size
        have hsm : (Node.made 4 0 label [min pa pq, max pa pq]).small := ⟨by omega, by omega, by omega, by simp, fun p hp => by simp at hp; omega, fun h => by omega, fun h => by omega⟩
        have hkl : (Node.made 4 0 label [min pa pq, max pa pq]).key.length ≤ 100000000000000 := by
          show (partsL (putL (([109] ++ numTo ((4 : Nat) : Int) 1 1) ++ numTo ((0 : Nat) : Int) 1 1) label) [min pa pq, max pa pq]).length ≤ _
          rw [partsL_length, putL_length]; simp [numTo_length]; omega
        have hput := putMade_any w8 base t w8.heap.size T1 names hT8 hb8 hlT (.made 4 0 label [min pa pq, max pa pq]) hsm (.agg #[.int .i64 4, .int .i64 0, .string (bs label), .slice A7 2 c7]) ⟨_, rfl, hO8, fun g hg => (hO8.lt g hg).2⟩ hkl (madeKey_any w8 base 4 0 label [min pa pq, max pa pq] (by omega) (by omega) (by omega) (by simp) (fun p hp => by simp at hp; omega) _ hO8)
        have Q8 : Hid (TF base w w8) := q8
        clear hw8 hX8 hCt8 hg8 q7 hb78 hf78 hT8 hO8 hb8 hsm hkl b7 hO7 hX7 hCt7 hX hK hCt q8
        go_wp2_with fail
        rw [← HW8.out]
        refine hput.mono ?_
        rintro e w9 ⟨rfl, hT9, q9⟩
        clear hput T8 Z0 Z1 Z2 Z3
        go_wp2
        go_ret
        exact ⟨by rw [HMK.out]; rfl, by rw [HMK.out]; exact hT9.mono q9.1.size, Q8.out.trans q9⟩
      · have hk4d : ((kind : Int) == 4) = false := by rw [beq_eq_false_iff_ne]; omega
        have hmd : madeN T1 kind label ps1 = .made kind 0 label ps1 := by unfold madeN; rw [if_neg h4]
        rw [hmd] at hmk
        have hlk := (partsL_length ps1 (putL (([109] ++ numTo (kind : Int) 1 1) ++ numTo ((0 : Nat) : Int) 1 1) label))
        have hkl : (Node.made kind 0 label ps1).key.length ≤ 100000000000000 := by
          show (partsL (putL (([109] ++ numTo (kind : Int) 1 1) ++ numTo ((0 : Nat) : Int) 1 1) label) ps1).length ≤ _
          rw [hlk, putL_length]; simp [numTo_length]; omega
        have hsm : (Node.made kind 0 label ps1).small := ⟨hkind, by omega, by omega, by omega, fun p hp => by have := hsmall p hp; omega, fun h => by rw [hps2]; exact hk6 h, fun h => by rw [hps2]; exact hk3 h⟩
        have hput := putMade_any wr base t wr.heap.size T1 names hTm hwb hlT (.made kind 0 label ps1) hsm (.agg #[.int .i64 (kind : Int), .int .i64 0, .string (bs label), pv]) ⟨pv, rfl, hO2, fun g hg => (hO2.lt g hg).2⟩ hkl (madeKey_any wr base kind 0 label ps1 hkind (by omega) (by omega) (by omega) (fun p hp => by have := hsmall p hp; omega) pv hO2)
        have HMK : Hid (makeN T kind label ss = putN T1 (.made kind 0 label ps1)) := hmk
        clear hmk hmd hlk hkl hsm hpl1 hpl2 hps2 hO2 hO hX hTm hTr hT1 hps1 hsmall hA h4
        go_wp2_with fail
        refine hput.mono ?_
        rintro e w9 ⟨rfl, hT9, q9⟩
        clear hput
        go_wp2
        go_ret
        exact ⟨by rw [HMK.out]; rfl, by rw [HMK.out]; exact hT9.mono q9.1.size, q.trans q9⟩
end Go.Proofs.YtipehnojibdfeaaGreat

/- the table of terms: fits, Make. -/
namespace Go.Proofs.YtipehnojibdfeaaGreat
open Go Go.Proofs Go.RowKit

set_option maxRecDepth 100000 in
theorem mostOne_any (w : World) (s : ByteArray) : Calls Tryz.prog 140 #[.string s] w fun e w' => e = .returned (.bool (decide (65536 < s.size))) ∧ w' = w := by
  go_enter Tryz.func140, Tryz.ntmps140
  go_wp2_with fail
  go_ret
  exact ⟨by simp; omega, rfl⟩

def mostL (ss : List ByteArray) : Bool := ss.any fun s => decide (65536 < s.size)
def MostPost (ss : List ByteArray) (w : World) (e : Ending) (w' : World) : Prop := w' = w ∧ ∃ i : Int, e = .returned (.int .i64 i) ∧ (0 ≤ i ↔ mostL ss = true)

set_option maxRecDepth 100000 in
set_option maxHeartbeats 2000000 in
theorem mostIndex_any (w : World) (ss : List ByteArray) (pa : Option Addr) (n c B : Nat) (hp : Reads w B 1 pa n (ss.map .string)) (hn : n ≤ 100000000000000) :
    Calls Tryz.prog 40 #[.slice pa n c, .func (.func 140) #[] #[]] w (MostPost ss w) := by
  have hl : ss.length = n := by have := hp.1; simpa using this
  have HL : Hid (ss.length = n) := hl
  clear hl
  go_enter Tryz.func40, Tryz.ntmps40
  go_wp2_with fail
  go_loopw [8] (fun i wr => ∃ k : Nat, k ≤ n ∧ i = .int .i64 k ∧ mostL (ss.take k) = false ∧ wr = w) (fun i _ => n - (intOf i).toNat)
  case atStart => exact ⟨0, by omega, rfl, by simp [mostL], rfl⟩
  case round =>
    obtain ⟨k, hk, rfl, hno, rfl⟩ := hrel
    by_cases hkn : k < n
    · have hkd : decide ((k : Int) < (n : Int)) = true := by simp; omega
      obtain ⟨bk, o, hA, hbk, hcell⟩ := hp.addr (by omega)
      subst hA
      have hks : k < ss.length := by have := HL.out; omega
      obtain ⟨s, hs⟩ : ∃ s, s = ss[k] := ⟨_, rfl⟩
      have hc := hcell k (.string s) (by rw [hs]; simp [hks])
      have htake : mostL (ss.take (k + 1)) = decide (65536 < s.size) := by
        rw [mostL, List.take_add_one]
        rw [mostL] at hno
        rw [List.any_append, hno]
        simp [hks, hs]
      have HT : Hid (mostL (ss.take (k + 1)) = decide (65536 < s.size)) := htake
      have HSUB : Hid (mostL (ss.take (k + 1)) = true → mostL ss = true) := fun h => by
        rw [mostL, List.any_eq_true] at h ⊢
        obtain ⟨x, hx, hx2⟩ := h
        exact ⟨x, List.mem_of_mem_take hx, hx2⟩
      clear hcell hp hs htake hno
      obtain ⟨bb, hbb⟩ : ∃ bb, bb = decide (65536 < s.size) := ⟨_, rfl⟩
      have hcall := fun W => mostOne_any W s
      rw [← hbb] at hcall
      have HT2 : Hid (mostL (ss.take (k + 1)) = bb) := HT.trans hbb.symm
      clear hbb HT
      cases bb
      · go_wp2_with fail
        refine (hcall _).mono ?_
        rintro e w' ⟨rfl, rfl⟩
        go_wp2
        go_roundw
        case rel => exact ⟨k + 1, by omega, by go_num, HT2.out, by first | rfl | trivial⟩
        case measure => simp [intOf]; omega
      · go_wp2_with fail
        refine (hcall _).mono ?_
        rintro e w' ⟨rfl, rfl⟩
        have hfin : mostL ss = true := HSUB.out HT2.out
        go_wp2
        go_ret
        exact ⟨rfl, _, rfl, by simp [hfin]⟩
    · have hkd : decide ((k : Int) < (n : Int)) = false := by simp; omega
      have hfin : mostL ss = false := by
        have e : ss.take k = ss := List.take_of_length_le (by have := HL.out; omega)
        rw [← e]; exact hno
      go_wp2
      go_ret
      exact ⟨rfl, _, rfl, by simp [hfin]⟩

set_option maxRecDepth 100000 in
theorem mostContains_any (w : World) (ss : List ByteArray) (pa : Option Addr) (n c B : Nat) (hp : Reads w B 1 pa n (ss.map .string)) (hn : n ≤ 100000000000000) :
    Calls Tryz.prog 37 #[.slice pa n c, .func (.func 140) #[] #[]] w fun e w' => e = .returned (.bool (mostL ss)) ∧ w' = w := by
  have h := mostIndex_any w ss pa n c B hp hn
  go_enter Tryz.func37, Tryz.ntmps37
  go_wp2_with fail
  refine h.mono ?_
  rintro e w' ⟨rfl, i, rfl, hi⟩
  have hd : decide (0 ≤ i) = mostL ss := by
    cases hb : mostL ss
    · simp [hb] at hi ⊢; exact hi
    · simp [hb] at hi ⊢; exact hi
  clear h hi
  go_wp2
  go_ret
  exact ⟨by simp [hd], rfl⟩

set_option maxRecDepth 100000 in
set_option maxHeartbeats 4000000 in
theorem fits_any (w : World) (base t M : Nat) (T T' : List Node) (names : Nat) (hT : TableAt w base t M T names) (n : Nat) (hlen' : T'.length ≤ 65536) (ck cl cp ct : Nat)
    (hdo : Calls Tryz.prog 142 #[.pointer (some ⟨ck, 0, none⟩), .pointer (some ⟨cl, 0, none⟩), .pointer (some ⟨cp, 0, none⟩), .pointer (some ⟨ct, 0, none⟩)] w fun e w' => e = .returned (.int .i64 (n : Int)) ∧ TableAt w' base t w'.heap.size T' names ∧ TF base w w') :
    Calls Tryz.prog 141 #[.pointer (some ⟨t, 0, none⟩), .func (.func 142) #[] #[.pointer (some ⟨ck, 0, none⟩), .pointer (some ⟨cl, 0, none⟩), .pointer (some ⟨cp, 0, none⟩), .pointer (some ⟨ct, 0, none⟩)]] w fun e w' => e = .returned (.tuple #[.int .i64 (n : Int), .bool true]) ∧ TableAt w' base t w'.heap.size T' names ∧ TF base w w' := by
  obtain ⟨lv, xs, m, D, a1, a2, _⟩ := hT
  obtain ⟨A, c, hlv⟩ := ownsRow_slice a2
  subst hlv
  have C0 : w.cell? ⟨t, 0, none⟩ = some (.slice A T.length c) := a1.cell 0
  clear a1 a2
  go_enter Tryz.func141, Tryz.ntmps141
  go_wp2_with fail
  refine hdo.mono ?_
  rintro e w1 ⟨rfl, hT1, q1⟩
  clear hdo
  have hT1' := hT1
  obtain ⟨lv, xs, m, D, a1, a2, _⟩ := hT1
  obtain ⟨A', c', hlv⟩ := ownsRow_slice a2
  subst hlv
  have C1 : w1.cell? ⟨t, 0, none⟩ = some (.slice A' T'.length c') := a1.cell 0
  have hkd : decide ((T'.length : Int) ≤ 65536) = true := by rw [decide_eq_true_iff]; omega
  clear a1 a2
  go_wp2
  go_ret2
  exact ⟨rfl, hT1', q1⟩

theorem readsStr {w : World} {A : Option Addr} {n : Nat} {ss : List (List UInt8)} (h : StrRow w A ss) (hn : n = ss.length) : Reads w w.heap.size 1 A n (ss.map fun s => .string (bs s)) := by
  refine ⟨by simp [hn], fun h0 => ?_⟩
  rcases h with h | ⟨g, cs, mk, e1, e2, e3⟩
  · rw [h] at hn; simp at hn; omega
  · refine ⟨_, e1, (Array.getElem?_eq_some_iff.1 e2).1, fun j u hj => ?_⟩
    rw [List.getElem?_map] at hj
    cases hs : ss[j]? with
    | none => rw [hs] at hj; simp at hj
    | some s =>
      rw [hs] at hj
      simp at hj
      subst hj
      rw [addr_add, Nat.zero_add]
      exact (cell_of_row w g j cs 9 mk e2).trans (e3 j s hs)
set_option maxRecDepth 100000 in
set_option maxHeartbeats 4000000 in
theorem make_any (w : World) (base t M : Nat) (T : List Node) (names : Nat) (hT : TableAt w base t M T names) (hM : M ≤ w.heap.size) (hb : base ≤ w.heap.size) (hlen : T.length ≤ 60000) (kind : Nat) (hkind : kind < 256) (ss : List (List UInt8)) (hss : ss.length ≤ 1000) (hk6 : kind = 6 → ss.length = 4) (hk3 : kind = 3 → ss.length = 1) (hk4 : kind = 4 → ∃ a b q n2 l2, (partsN T [] ss).2 = [a, b] ∧ (partsN T [] ss).1[b]? = some (.made 3 n2 l2 [q]) ∧ q ≤ 65536) (hsl : ∀ s ∈ ss, s.length ≤ 65536) (A : Option Addr) (c : Nat)
    (hA : StrRow w A ss) (hright : ∀ W, Calls Tryz.prog 139 #[.int .i64 (kind : Int), .int .i64 (ss.length : Int)] W fun e w' => e = .returned (.bool true) ∧ w' = W) :
    Calls Tryz.prog 132 #[.pointer (some ⟨t, 0, none⟩), .int .i64 (kind : Int), .string ⟨#[]⟩, .slice A ss.length c] w fun e w' => e = .returned (.tuple #[.string (bs (textL (makeN T kind [] ss).2)), .int .i64 0]) ∧ TableAt w' base t w'.heap.size (makeN T kind [] ss).1 names ∧ TF base w w' := by
  obtain ⟨w1, hw1⟩ : ∃ w1, w1 = (((w.alloc (.cells #[.pointer (some ⟨t, 0, none⟩)] 54)).alloc (.cells #[.int .i64 (kind : Int)] 3)).alloc (.cells #[.string ⟨#[]⟩] 9)).alloc (.cells #[.slice A ss.length c] 38) := ⟨_, rfl⟩
  have b1 : Below w.heap.size w w1 := by rw [hw1]; exact ((((Below.refl _ _).alloc (Nat.le_refl _) _).alloc (by simp) _).alloc (by simp; omega) _).alloc (by simp; omega) _
  have B0 : Blk w1 w.heap.size 54 #[.pointer (some ⟨t, 0, none⟩)] := by rw [hw1]; exact (((Blk.new w _ _).alloc _).alloc _).alloc _
  have B1 : Blk w1 (w.heap.size + 1) 3 #[.int .i64 (kind : Int)] := by
    have h := Blk.new (w.alloc (.cells #[.pointer (some ⟨t, 0, none⟩)] 54)) 3 #[.int .i64 (kind : Int)]
    rw [World.size_alloc] at h
    rw [hw1]; exact (h.alloc _).alloc _
  have B2 : Blk w1 (w.heap.size + 2) 9 #[.string ⟨#[]⟩] := by
    have h := Blk.new ((w.alloc (.cells #[.pointer (some ⟨t, 0, none⟩)] 54)).alloc (.cells #[.int .i64 (kind : Int)] 3)) 9 #[.string ⟨#[]⟩]
    rw [World.size_alloc, World.size_alloc] at h
    rw [hw1]; exact h.alloc _
  have B3 : Blk w1 (w.heap.size + 3) 38 #[.slice A ss.length c] := by
    have h := Blk.new (((w.alloc (.cells #[.pointer (some ⟨t, 0, none⟩)] 54)).alloc (.cells #[.int .i64 (kind : Int)] 3)).alloc (.cells #[.string ⟨#[]⟩] 9)) 38 #[.slice A ss.length c]
    rw [World.size_alloc, World.size_alloc, World.size_alloc] at h
    rw [hw1]; exact h
  have hT1 := (hT.later b1).mono (Nat.le_trans hM b1.size)
  have hA1 := hA.far_ (Q := fun _ => True) (Far.of_below b1) (fun _ _ => trivial)
  have hnone := termNone_any w1 base t w1.heap.size T names hT1
  have hmost := mostContains_any w1 (ss.map bs) A ss.length c w1.heap.size (by rw [List.map_map]; exact readsStr hA1 rfl) (by omega)
  have hml : mostL (ss.map bs) = false := by
    unfold mostL
    rw [List.any_map, List.any_eq_false]
    intro s hs
    have := hsl s hs
    simp [Function.comp, bs_size]; omega
  rw [hml] at hmost
  have hmk2 := make2_loop w1 base t T names hT1 (Nat.le_trans hb b1.size) hlen kind hkind [] (by simp) ss hss hk6 hk3 hk4 hsl (w.heap.size + 1) (w.heap.size + 2) (w.heap.size + 3) w.heap.size A c hA1 B1 B2 B3 B0
  have hlm : (makeN T kind [] ss).1.length ≤ 65536 := by
    have h1 := (partsN_length ss T []).1
    have h2 := (putN_length (partsN T [] ss).1 (madeN (partsN T [] ss).1 kind [] (partsN T [] ss).2)).1
    show (putN (partsN T [] ss).1 (madeN (partsN T [] ss).1 kind [] (partsN T [] ss).2)).1.length ≤ _
    omega
  have hln : (makeN T kind [] ss).2 ≤ 65536 := by
    have h1 := (partsN_length ss T []).1
    have h2 := (putN_length (partsN T [] ss).1 (madeN (partsN T [] ss).1 kind [] (partsN T [] ss).2)).2
    show (putN (partsN T [] ss).1 (madeN (partsN T [] ss).1 kind [] (partsN T [] ss).2)).2 ≤ _
    omega
  obtain ⟨n, hn⟩ : ∃ n, n = (makeN T kind [] ss).2 := ⟨_, rfl⟩
  obtain ⟨T', hT'⟩ : ∃ T', T' = (makeN T kind [] ss).1 := ⟨_, rfl⟩
  rw [← hn, ← hT'] at hmk2
  rw [← hn] at hln
  rw [← hT'] at hlm
  have hfit := fits_any w1 base t w1.heap.size T T' names hT1 n hlm _ _ _ _ hmk2
  rw [← hn, ← hT']
  have L0 : w1.cell? ⟨w.heap.size, 0, none⟩ = some (.pointer (some ⟨t, 0, none⟩)) := B0.cell 0
  have L1 : w1.cell? ⟨w.heap.size + 1, 0, none⟩ = some (.int .i64 (kind : Int)) := B1.cell 0
  have L2 : w1.cell? ⟨w.heap.size + 2, 0, none⟩ = some (.string ⟨#[]⟩) := B2.cell 0
  have L3 : w1.cell? ⟨w.heap.size + 3, 0, none⟩ = some (.slice A ss.length c) := B3.cell 0
  have HW1 : Hid (w1 = (((w.alloc (.cells #[.pointer (some ⟨t, 0, none⟩)] 54)).alloc (.cells #[.int .i64 (kind : Int)] 3)).alloc (.cells #[.string ⟨#[]⟩] 9)).alloc (.cells #[.slice A ss.length c] 38)) := hw1
  have L0' : ((((w.alloc (.cells #[.pointer (some ⟨t, 0, none⟩)] 54)).alloc (.cells #[.int .i64 (kind : Int)] 3)).alloc (.cells #[.string ⟨#[]⟩] 9)).alloc (.cells #[.slice A ss.length c] 38)).cell? ⟨w.heap.size, 0, none⟩ = some (.pointer (some ⟨t, 0, none⟩)) := by rw [← hw1]; exact L0
  clear hw1 hT hT1 hA hA1 B0 B1 B2 B3 hmk2 hml hn hT'
  go_enter Tryz.func132, Tryz.ntmps132
  go_wp2_with fail
  rw [← HW1.out]
  refine hnone.mono ?_
  rintro e w' ⟨rfl, hw⟩
  rw [hw]
  clear hw w' hnone HW1 L0'
  go_wp2_with fail
  refine (hright _).mono ?_
  rintro e w' ⟨rfl, hw⟩
  rw [hw]
  clear hw w' hright
  go_wp2_with fail
  refine hmost.mono ?_
  rintro e w' ⟨rfl, hw⟩
  rw [hw]
  clear hw w' hmost
  go_wp2_with fail
  refine hfit.mono ?_
  rintro e w2 ⟨rfl, hT2, q2⟩
  clear hfit L0 L1 L2 L3
  have htx := text_any w2 n hln
  go_wp2_with fail
  refine htx.mono ?_
  rintro e w3 ⟨rfl, b3⟩
  clear htx
  go_wp2
  go_ret2
  exact ⟨rfl, (hT2.later b3).mono b3.size, ((TF.of_below b1 hb).trans q2).trans (TF.of_below b3 (Nat.le_trans hb (Nat.le_trans b1.size q2.1.size)))⟩
end Go.Proofs.YtipehnojibdfeaaGreat
