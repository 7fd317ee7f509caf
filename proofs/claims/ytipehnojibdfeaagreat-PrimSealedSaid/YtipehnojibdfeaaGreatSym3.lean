/- prim's kind of terms: open. -/
import Derived.Test.YtipehnojibdfeaaGreatSym2
import Derived.Deep.RegionHeld3
namespace Go.Proofs.YtipehnojibdfeaaGreat
open Go Go.Proofs Go.RowKit

def openR (b : Bool) (txt : List UInt8) : Value := if b then .tuple #[.string (bs txt), .int .i64 0] else .tuple #[.string (bs []), .int .i64 10]

theorem cell4 {w : World} {g : Nat} {a b c d u : Value} {p : Addr} (h : w.cell? p = some u) (hne : p.block < g) : ((((w.setCell ⟨g, 0, none⟩ a).setCell ⟨g, 1, none⟩ b).setCell ⟨g, 2, none⟩ c).setCell ⟨g, 3, none⟩ d).cell? p = some u := by
  have hn : ∀ i, (⟨g, i, none⟩ : Addr) ≠ p := fun i e => by rw [← e] at hne; simp at hne
  rw [World.cell?_setCell_other _ _ _ _ (hn 3), World.cell?_setCell_other _ _ _ _ (hn 2), World.cell?_setCell_other _ _ _ _ (hn 1), World.cell?_setCell_other _ _ _ _ (hn 0)]
  exact h
set_option maxRecDepth 100000 in
set_option maxHeartbeats 8000000 in
theorem symOpen_any (w : World) (base t M : Nat) (T : List Node) (k : Nat) (hT : TableAt w base t M T k) (hlen : T.length ≤ 60000) (key nonce ad sealed : List UInt8) (hkl : key.length ≤ 9223372036854775807) (hnl : nonce.length ≤ 9223372036854775807) (hal : ad.length ≤ 9223372036854775807) (hsl : sealed.length ≤ 9223372036854775807)
    (m nd pa pb pc pd km j : Nat) (l nb cb txt : List UInt8) (hm : numOf T.length sealed = some m) (hx : T[m]? = some (.made 6 nd l [pa, pb, pc, pd])) (hpa : pa ≤ 65536)
    (hkm : numOf T.length key = some km) (hkx : T[km]? = some (.name j)) (hnn : numOf T.length nonce = none) (hnx : T[pb]? = some (.data nb)) (han : numOf T.length ad = none) (hax : T[pc]? = some (.data cb)) (htx : T[pd]? = some (.data txt))
    (b1 b2 b3 : Bool) (h1 : b1 = decide (key = textL pa)) (h2 : b2 = decide (nonce = nb)) (h3 : b3 = decide (ad = cb)) :
    Calls Tryz.prog 125 #[.agg #[.pointer (some ⟨t, 0, none⟩)], .string (bs key), .string (bs nonce), .string (bs ad), .string (bs sealed)] w fun e w' => e = .returned (openR (b1 && b2 && b3) txt) ∧ Below w.heap.size w w' := by
  obtain ⟨w1, hw1⟩ : ∃ w1, w1 = w.alloc (.cells #[.pointer (some ⟨t, 0, none⟩)] 78) := ⟨_, rfl⟩
  have q1 : Below w.heap.size w w1 := by rw [hw1]; exact (Below.refl _ _).alloc (Nat.le_refl _) _
  have hS1 : Blk w1 w.heap.size 78 #[.pointer (some ⟨t, 0, none⟩)] := by rw [hw1]; exact Blk.new _ _ _
  have hof := of_made w1 base t M T k (hT.later q1) (by omega) sealed hsl m hm 6 nd l [pa, pb, pc, pd] (by simp) hx
  obtain ⟨sk, hsk⟩ : ∃ sk, sk = bs key := ⟨_, rfl⟩
  obtain ⟨sn, hsn⟩ : ∃ sn, sn = bs nonce := ⟨_, rfl⟩
  obtain ⟨sa, hsa⟩ : ∃ sa, sa = bs ad := ⟨_, rfl⟩
  have hi1 := fun W hW => is_name W base t M T k hW hlen key hkl km j hkm hkx pa hpa b1 h1
  have hi2 := fun W hW => is_data W base t M T k hW hlen nonce hnl hnn pb nb hnx b2 h2
  have hi3 := fun W hW => is_data W base t M T k hW hlen ad hal han pc cb hax b3 h3
  have hpt := fun W hW => part_data W base t M T k hW hlen pd txt htx
  rw [← hsk] at hi1 ⊢
  rw [← hsn] at hi2 ⊢
  rw [← hsa] at hi3 ⊢
  have HW1 : Hid (w1 = w.alloc (.cells #[.pointer (some ⟨t, 0, none⟩)] 78)) := hw1
  clear hw1 hsk hsn hsa h1 h2 h3 hm hx hkm hkx hnn hnx han hax htx
  go_enter Tryz.func125, Tryz.ntmps125
  go_wp2_with fail
  rw [← HW1.out]
  refine hof.mono ?_
  rintro e w2 ⟨⟨pv, rfl, hpv⟩, q2⟩
  clear hof
  obtain ⟨gp, cp, hpve, hcp, hpc⟩ := row_cell hpv (by simp)
  have hP : ∀ (i : Nat) (p : Nat), [pa, pb, pc, pd][i]? = some p → w2.cell? ⟨gp, i, none⟩ = some (.int .i64 (p : Int)) := fun i p hi => hpc i _ (by rw [intL, List.getElem?_map, hi]; rfl)
  subst hpve
  obtain ⟨w3, hw3⟩ : ∃ w3, w3 = w2.alloc (.cells #[.int .i64 6, .int .i64 (nd : Int), .string (bs l), .slice (some ⟨gp, 0, none⟩) 4 cp] 181) := ⟨_, rfl⟩
  have z3 : Below w2.heap.size w2 w3 := by rw [hw3]; exact (Below.refl _ _).alloc (Nat.le_refl _) _
  have hX3 : Blk w3 w2.heap.size 181 #[.int .i64 6, .int .i64 (nd : Int), .string (bs l), .slice (some ⟨gp, 0, none⟩) 4 cp] := by rw [hw3]; exact Blk.new _ _ _
  have q3 : Below w.heap.size w w3 := Below.step (Below.step q1 q2) z3
  have hT3 := hT.later q3
  have L0 := later_cell (show w3.cell? ⟨w.heap.size, 0, none⟩ = some (.pointer (some ⟨t, 0, none⟩)) from Below.cell_some z3 (Below.cell_some q2 (hS1.cell 0)))
  have L1 := later_cell (show w3.cell? ⟨w2.heap.size, 0, none⟩ = some (.int .i64 6) from hX3.cell 0)
  have L2 := later_cell (show w3.cell? ⟨w2.heap.size, 3, none⟩ = some (.slice (some ⟨gp, 0, none⟩) 4 cp) from hX3.cell 3)
  have P0 := later_cell (Below.cell_some z3 (hP 0 pa rfl))
  have P1 := later_cell (Below.cell_some z3 (hP 1 pb rfl))
  have P2 := later_cell (Below.cell_some z3 (hP 2 pc rfl))
  have P3 := later_cell (Below.cell_some z3 (hP 3 pd rfl))
  have i1 : ∀ x : Later w3, Calls Tryz.prog 134 #[.agg #[.pointer (some ⟨t, 0, none⟩)], .string sk, .int .i64 (pa : Int)] x.v fun e w' => e = .returned (.bool b1) ∧ Below x.v.heap.size x.v w' := fun x => hi1 _ (hT3.later x.h)
  have i2 : ∀ x : Later w3, Calls Tryz.prog 134 #[.agg #[.pointer (some ⟨t, 0, none⟩)], .string sn, .int .i64 (pb : Int)] x.v fun e w' => e = .returned (.bool b2) ∧ Below x.v.heap.size x.v w' := fun x => hi2 _ (hT3.later x.h)
  have i3 : ∀ x : Later w3, Calls Tryz.prog 134 #[.agg #[.pointer (some ⟨t, 0, none⟩)], .string sa, .int .i64 (pc : Int)] x.v fun e w' => e = .returned (.bool b3) ∧ Below x.v.heap.size x.v w' := fun x => hi3 _ (hT3.later x.h)
  have HW3 : Hid (w3 = w2.alloc (.cells #[.int .i64 6, .int .i64 (nd : Int), .string (bs l), .slice (some ⟨gp, 0, none⟩) 4 cp] 181)) := hw3
  have hT2 := hT.later (Below.step q1 q2)
  clear hw3 hi1 hi2 hi3 hpv hpc hP hX3 q1 q2 z3 hS1 HW1 hT
  have hnil : bs [] = ⟨#[]⟩ := rfl
  cases b1 with
  | false =>
    go_wp2_with fail
    rw [← HW3.out]
    refine wp_region_later (by kernel_rfl) (by kernel_rfl) ?_
    repeat (go_big_quiet_step ((first | (go_at_call 134; exact later_of (i1 _)))))
    refine wpQuiet_nil ?_
    intro _ hw'
    obtain ⟨x, hw''⟩ := hw'
    subst hw''
    go_wp2
    go_ret2
    exact ⟨rfl, q3.trans (x.h.mono q3.size)⟩
  | true =>
    cases b2 with
    | false =>
      go_wp2_with fail
      rw [← HW3.out]
      refine wp_region_later (by kernel_rfl) (by kernel_rfl) ?_
      iterate 14 (go_big_quiet_step (fail))
      go_big_quiet_step ((go_at_call 134; exact later_of (i1 _)))
      iterate 9 (go_big_quiet_step (fail))
      go_big_quiet_step ((go_at_call 134; exact later_of (i2 _)))
      repeat (go_big_quiet_step (fail))
      refine wpQuiet_nil ?_
      intro _ hw'
      obtain ⟨x, hw''⟩ := hw'
      subst hw''
      go_wp2
      go_ret2
      exact ⟨rfl, q3.trans (x.h.mono q3.size)⟩
    | true =>
      cases b3 with
      | false =>
        go_wp2_with fail
        rw [← HW3.out]
        refine wp_region_later (by kernel_rfl) (by kernel_rfl) ?_
        iterate 14 (go_big_quiet_step (fail))
        go_big_quiet_step ((go_at_call 134; exact later_of (i1 _)))
        iterate 9 (go_big_quiet_step (fail))
        go_big_quiet_step ((go_at_call 134; exact later_of (i2 _)))
        iterate 9 (go_big_quiet_step (fail))
        go_big_quiet_step ((go_at_call 134; exact later_of (i3 _)))
        repeat (go_big_quiet_step (fail))
        refine wpQuiet_nil ?_
        intro _ hw'
        obtain ⟨x, hw''⟩ := hw'
        subst hw''
        go_wp2
        go_ret2
        exact ⟨rfl, q3.trans (x.h.mono q3.size)⟩
      | true =>
        go_wp2_with fail
        rw [← HW3.out]
        refine wp_region_later (by kernel_rfl) (by kernel_rfl) ?_
        iterate 14 (go_big_quiet_step (fail))
        go_big_quiet_step ((go_at_call 134; exact later_of (i1 _)))
        iterate 9 (go_big_quiet_step (fail))
        go_big_quiet_step ((go_at_call 134; exact later_of (i2 _)))
        iterate 9 (go_big_quiet_step (fail))
        go_big_quiet_step ((go_at_call 134; exact later_of (i3 _)))
        repeat (go_big_quiet_step (fail))
        refine wpQuiet_nil ?_
        intro _ hw'
        obtain ⟨x, hw''⟩ := hw'
        subst hw''
        have q4 := q3.trans (x.h.mono q3.size)
        have L0 := later_cell (L0 x)
        have L1 := later_cell (L1 x)
        have L2 := later_cell (L2 x)
        have P3 := later_cell (P3 x)
        have hT4 := hT3.later x.h
        clear i1 i2 i3 P0 P1 P2 HW3
        obtain ⟨w4, x⟩ := x
        simp only at *
        clear x
        have Z0 : w4.drew.cell? ⟨w.heap.size, 0, none⟩ = some (.pointer (some ⟨t, 0, none⟩)) := L0 ⟨w4, Below.refl _ _⟩
        have Z1 : w4.drew.cell? ⟨w2.heap.size, 3, none⟩ = some (.slice (some ⟨gp, 0, none⟩) 4 cp) := L2 ⟨w4, Below.refl _ _⟩
        have Z2 : w4.drew.cell? ⟨gp, 3, none⟩ = some (.int .i64 (pd : Int)) := P3 ⟨w4, Below.refl _ _⟩
        have za : Below w4.heap.size w4.drew (w4.alloc (.cells #[.int .i64 0, .int .i64 0, .string ⟨#[]⟩, .slice none 0 0] 181)).drew := ⟨rfl, rfl, rfl, by simp, fun i hi => (Below.refl w4.heap.size w4 |>.alloc (Nat.le_refl _) _).block i hi⟩
        have A0 : (w4.alloc (.cells #[.int .i64 0, .int .i64 0, .string ⟨#[]⟩, .slice none 0 0] 181)).drew.cell? ⟨w.heap.size, 0, none⟩ = some (.pointer (some ⟨t, 0, none⟩)) := Below.cell_some za Z0
        have A1 : (w4.alloc (.cells #[.int .i64 0, .int .i64 0, .string ⟨#[]⟩, .slice none 0 0] 181)).drew.cell? ⟨w2.heap.size, 3, none⟩ = some (.slice (some ⟨gp, 0, none⟩) 4 cp) := Below.cell_some za Z1
        have A2 : (w4.alloc (.cells #[.int .i64 0, .int .i64 0, .string ⟨#[]⟩, .slice none 0 0] 181)).drew.cell? ⟨gp, 3, none⟩ = some (.int .i64 (pd : Int)) := Below.cell_some za Z2
        have hDa : Blk (w4.alloc (.cells #[.int .i64 0, .int .i64 0, .string ⟨#[]⟩, .slice none 0 0] 181)).drew w4.heap.size 181 #[.int .i64 0, .int .i64 0, .string ⟨#[]⟩, .slice none 0 0] := Blk.new w4 _ _
        have hT4d : TableAt w4.drew base t M T k := hT4
        have hT4a0 : TableAt (w4.alloc (.cells #[.int .i64 0, .int .i64 0, .string ⟨#[]⟩, .slice none 0 0] 181)) base t M T k := hT4.later ((Below.refl _ _).alloc (Nat.le_refl _) _)
        have hT4a : TableAt (w4.alloc (.cells #[.int .i64 0, .int .i64 0, .string ⟨#[]⟩, .slice none 0 0] 181)).drew base t M T k := hT4a0
        have N0 : Hid ((⟨w.heap.size, 0, none⟩ : Addr).block < w4.heap.size) := block_lt_of_cell Z0
        have N1 : Hid ((⟨w2.heap.size, 3, none⟩ : Addr).block < w4.heap.size) := block_lt_of_cell Z1
        have N2 : Hid ((⟨gp, 3, none⟩ : Addr).block < w4.heap.size) := block_lt_of_cell Z2
        have Q4 : Hid (Below w.heap.size w w4.drew) := ⟨q4.os, q4.tape, q4.output, q4.size, q4.block⟩
        have QA : Hid (Below w.heap.size w (w4.alloc (.cells #[.int .i64 0, .int .i64 0, .string ⟨#[]⟩, .slice none 0 0] 181)).drew) := (show Below w.heap.size w w4.drew from Q4.out).trans (za.mono q4.size)
        clear L0 L1 L2 P3
        go_wp2_with fail
        go_region_held3 (fun w' => w'.cell? ⟨w.heap.size, 0, none⟩ = some (.pointer (some ⟨t, 0, none⟩)) ∧ w'.cell? ⟨w2.heap.size, 3, none⟩ = some (.slice (some ⟨gp, 0, none⟩) 4 cp) ∧ w'.cell? ⟨gp, 3, none⟩ = some (.int .i64 (pd : Int))) (first | (with_reducible exact ⟨Y0, Y1, Y2⟩) | (with_reducible exact ⟨Z0, Z1, Z2⟩) | (with_reducible exact ⟨A0, A1, A2⟩) | with_reducible exact ⟨cell4 Y0 N0.out, cell4 Y1 N1.out, cell4 Y2 N2.out⟩ | go_keep)
          (first | (go_at_call 135; refine (hpt _ (by first | exact hT4d | exact hT4a)).mono ?_; rintro e w5 ⟨rfl, q5⟩; have Y0 : w5.cell? ⟨w.heap.size, 0, none⟩ = some (.pointer (some ⟨t, 0, none⟩)) := (by first | exact Below.cell_some q5 Z0 | exact Below.cell_some q5 A0); have Y1 : w5.cell? ⟨w2.heap.size, 3, none⟩ = some (.slice (some ⟨gp, 0, none⟩) 4 cp) := (by first | exact Below.cell_some q5 Z1 | exact Below.cell_some q5 A1); have Y2 : w5.cell? ⟨gp, 3, none⟩ = some (.int .i64 (pd : Int)) := (by first | exact Below.cell_some q5 Z2 | exact Below.cell_some q5 A2); try (have hD5 : Blk w5 w4.heap.size 181 #[.int .i64 0, .int .i64 0, .string ⟨#[]⟩, .slice none 0 0] := hDa.later q5; have D0 : w5.cell? ⟨w4.heap.size, 0, none⟩ = some (.int .i64 0) := hD5.cell 0; have D1 : w5.cell? ⟨w4.heap.size, 1, none⟩ = some (.int .i64 0) := hD5.cell 1; have D2 : w5.cell? ⟨w4.heap.size, 2, none⟩ = some (.string ⟨#[]⟩) := hD5.cell 2; have D3 : w5.cell? ⟨w4.heap.size, 3, none⟩ = some (.slice none 0 0) := hD5.cell 3; have F0 : w5.frozen? ⟨w4.heap.size, 0, none⟩ = false := hD5.frozen 0; have F1 : w5.frozen? ⟨w4.heap.size, 1, none⟩ = false := hD5.frozen 1; have F2 : w5.frozen? ⟨w4.heap.size, 2, none⟩ = false := hD5.frozen 2; have F3 : w5.frozen? ⟨w4.heap.size, 3, none⟩ = false := hD5.frozen 3)))
        · have q6 : Below w.heap.size w w5 := Q4.out.trans (q5.mono Q4.out.size)
          go_wp2
          go_ret2
          exact ⟨rfl, q6.alloc q6.size _⟩
        · have q6 : Below w.heap.size w w5 := QA.out.trans (q5.mono QA.out.size)
          have hle : w.heap.size ≤ w4.heap.size := Q4.out.size
          go_wp2
          go_ret2
          exact ⟨rfl, (((q6.setCell hle _).setCell hle _).setCell hle _).setCell hle _⟩
end Go.Proofs.YtipehnojibdfeaaGreat
