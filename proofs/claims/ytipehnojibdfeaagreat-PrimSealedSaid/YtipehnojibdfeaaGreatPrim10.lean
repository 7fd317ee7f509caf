/- prim's did, of any kind; a prim of terms. -/
import Derived.Test.YtipehnojibdfeaaGreatSym3
import Derived.Test.YtipehnojibdfeaaGreatLaw1
namespace Go.Proofs.YtipehnojibdfeaaGreat
open Go Go.Proofs Go.RowKit

def primCells (c0 c1 c2 j : Value) : Array Value := #[c0, c1, c2, j]
/-- a prim that lies at p, its journal a row behind 'base' -/
def PrimAt (w : World) (base p n : Nat) (c0 c1 c2 : Value) : Prop :=
  ∃ j xs, Blk w p 56 (primCells c0 c1 c2 j) ∧ w.ownsRow base 60 6 j n xs ∧ j.ownBlock ≠ some p ∧ ∀ u ∈ xs, u.oneCell' = true
theorem PrimAt.far_ {w w' : World} {base p n : Nat} {c0 c1 c2 : Value} {Q : Obj → Prop} (h : PrimAt w base p n c0 c1 c2) (hf : Far Q w w') (h1 : ∀ cs, Q (.cells cs 56 (0, 0))) (h2 : ∀ cs, Q (.cells cs 60 (0, 0))) : PrimAt w' base p n c0 c1 c2 := by
  obtain ⟨j, xs, hB, hJ, hne⟩ := h
  exact ⟨j, xs, hB.far_ hf (h1 _), ownsRow_far hJ hf h2, hne⟩
theorem PrimAt.later {w w' : World} {base p n : Nat} {c0 c1 c2 : Value} (h : PrimAt w base p n c0 c1 c2) (hb : Below w.heap.size w w') : PrimAt w' base p n c0 c1 c2 :=
  h.far_ (Q := fun _ => True) (Far.of_below hb) (fun _ => trivial) (fun _ => trivial)

set_option maxHeartbeats 2000000 in
theorem did2_any (w : World) (base p n : Nat) (c0 c1 c2 : Value) (hp : PrimAt w base p n c0 c1 c2) (hn : n ≤ 1000000) (hb : base ≤ w.heap.size) (hbp : base ≤ p) (k : Int) (key nonce ad text out : ByteArray) :
    Calls Tryz.prog 29 #[.pointer (some ⟨p, 0, none⟩), .agg (deedCells k key nonce ad text out).toArray] w fun e w' => e = .returned (.tuple #[]) ∧ PrimAt w' base p (n + 1) c0 c1 c2 ∧ Below base w w' ∧ Far notPrim w w' := by
  obtain ⟨j, xs, hB, hJ, hne, h1x⟩ := hp
  have H1X : Hid (∀ u ∈ xs, u.oneCell' = true) := h1x
  clear h1x
  go_enter Tryz.func29, Tryz.ntmps29
  go_wp2_with fail
  obtain ⟨w1, hw1⟩ : ∃ w1, w1 = w.alloc (.cells (deedCells k key nonce ad text out).toArray 60) := ⟨_, rfl⟩
  have hD : Blk w1 w.heap.size 60 (deedCells k key nonce ad text out).toArray := by rw [hw1]; exact Blk.new _ _ _
  have hB1 : Blk w1 p 56 (primCells c0 c1 c2 j) := by rw [hw1]; exact hB.alloc _
  have hJ1 : w1.ownsRow base 60 6 j n xs := by rw [hw1]; exact hJ.alloc _
  have q1 : Below w.heap.size w w1 := by rw [hw1]; exact (Below.refl _ _).alloc (Nat.le_refl _) _
  first | rw [← hw1] | skip
  clear hw1 hB hJ
  have C0 : w1.cell? ⟨p, 3, none⟩ = some j := hB1.cell 3
  have F0 : w1.frozen? ⟨p, 3, none⟩ = false := hB1.frozen 3
  have D0 : w1.cell? ⟨w.heap.size, 0, none⟩ = some (.int .i64 k) := hD.cell 0
  have D1 : w1.cell? ⟨w.heap.size, 1, none⟩ = some (.string key) := hD.cell 1
  have D2 : w1.cell? ⟨w.heap.size, 2, none⟩ = some (.string nonce) := hD.cell 2
  have D3 : w1.cell? ⟨w.heap.size, 3, none⟩ = some (.string ad) := hD.cell 3
  have D4 : w1.cell? ⟨w.heap.size, 4, none⟩ = some (.string text) := hD.cell 4
  have D5 : w1.cell? ⟨w.heap.size, 5, none⟩ = some (.string out) := hD.cell 5
  have hJd : w1.drew.ownsRow base 60 6 j n xs := hJ1
  have hBd : Blk w1.drew p 56 (primCells c0 c1 c2 j) := hB1
  have hJ2 := hJd.alloc (.cells #[.int .i64 k, .string key, .string nonce, .string ad, .string text, .string out] 60)
  have hB2 := hBd.alloc (.cells #[.int .i64 k, .string key, .string nonce, .string ad, .string text, .string out] 60)
  have hnews : ∀ i u, (deedCells k key nonce ad text out)[i]? = some u → (w1.drew.alloc (.cells #[.int .i64 k, .string key, .string nonce, .string ad, .string text, .string out] 60)).cell? ((⟨w1.heap.size, 0, none⟩ : Addr).add i) = some u := by
    intro i u hi
    rw [addr_add, Nat.zero_add, show (w1.drew.alloc (.cells #[.int .i64 k, .string key, .string nonce, .string ad, .string text, .string out] 60)).cell? ⟨w1.heap.size, i, none⟩ = _ from (Blk.new w1.drew 60 _).cell i]
    simpa [deedCells] using hi
  have h1c : ∀ u ∈ deedCells k key nonce ad text out, u.oneCell' = true := by
    intro u hu
    simp [deedCells] at hu
    rcases hu with h | h | h | h | h | h <;> subst h <;> rfl
  have hbw : base ≤ (w1.drew.alloc (.cells #[.int .i64 k, .string key, .string nonce, .string ad, .string text, .string out] 60)).heap.size := by
    have := q1.size
    have e : (w1.drew.alloc (.cells #[.int .i64 k, .string key, .string nonce, .string ad, .string text, .string out] 60)).heap.size = w1.heap.size + 1 := by rw [World.size_alloc]; rfl
    omega
  obtain ⟨iD, zD, hi, hz, hs, hby, hzs⟩ := deedInfo
  have C0b : (w1.alloc (.cells #[.int .i64 k, .string key, .string nonce, .string ad, .string text, .string out] 60)).cell? ⟨p, 3, none⟩ = some j := (hB1.alloc _).cell 3
  have fin : ∀ (w' : World) (A : Option Addr) (c : Nat), w'.ownsRow base 60 6 (.slice A (n + 1) c) (n + 1) (xs ++ deedCells k key nonce ad text out) → (w1.drew.alloc (.cells #[.int .i64 k, .string key, .string nonce, .string ad, .string text, .string out] 60)).grownBy w' j.ownBlock → Blk w' p 56 (primCells c0 c1 c2 j) → PrimAt (w'.setCell ⟨p, 3, none⟩ (.slice A (n + 1) c)) base p (n + 1) c0 c1 c2 ∧ Below base w (w'.setCell ⟨p, 3, none⟩ (.slice A (n + 1) c)) ∧ Far notPrim w (w'.setCell ⟨p, 3, none⟩ (.slice A (n + 1) c)) := by
    intro w' A c hv hg hB3
    have hne2 := own_blk_ne hv hB3 (by decide)
    refine ⟨⟨_, _, hB3.set_ 3 _, hv.kept (grownBy_set (grownBy_refl _ _) _) (.inr hne2), hne2, fun u hu => (List.mem_append.1 hu).elim (H1X.out u) (h1c u)⟩, ?_⟩
    have b1 : Below base w (w1.drew.alloc (.cells #[.int .i64 k, .string key, .string nonce, .string ad, .string text, .string out] 60)) := (show Below base w w1.drew from ⟨q1.os, q1.tape, q1.output, q1.size, fun i hi => q1.block i (by omega)⟩).alloc (by show base ≤ w1.heap.size; have := q1.size; omega) _
    refine ⟨(b1.grown hg hbw (fun k hk => hJ1.ownBlock_ge hk)).setCell hbp _, ?_⟩
    have f1 : Far notPrim w w1 := Far.of_below q1
    have f2 : Far notPrim w1 (w1.drew.alloc (.cells #[.int .i64 k, .string key, .string nonce, .string ad, .string text, .string out] 60)) := Far.of_below (w := w1) ((Below.refl w1.heap.size w1).alloc (Nat.le_refl _) (.cells #[.int .i64 k, .string key, .string nonce, .string ad, .string text, .string out] 60) |> fun h => ⟨h.os, h.tape, h.output, h.size, h.block⟩)
    have f3 : Far notPrim (w1.drew.alloc (.cells #[.int .i64 k, .string key, .string nonce, .string ad, .string text, .string out] 60)) w' := Far.of_grown hg (fun i o h ho => by
      obtain ⟨cs, e⟩ := ownsRow_obj hJ2 h ho
      rw [e]; exact fun h => h.2 rfl)
    have f4 : Far notPrim w' (w'.setCell ⟨p, 3, none⟩ (.slice A (n + 1) c)) := Far.of_grown (grownBy_set (grownBy_refl w' (some p)) _) (fun i o h ho => by
      cases h
      rw [hB3] at ho; cases ho; exact fun h => h.1 rfl)
    exact ((f1.trans f2).trans f3).trans f4
  go_region_law (refine step_append_own rfl (.tmp 8) (.tmp 10) 49 rfl base 60 iD zD 6 88 Tryz.underlying49 hi hz hs hby hzs (by decide) j n xs rfl hJ2 ⟨w1.heap.size, 0, none⟩ 1 1 (deedCells k key nonce ad text out) rfl rfl hnews h1c (by unfold maxLen; omega) (by omega) hbw ?_; intro v' w' hv' hg'; have hB3 := hB2.grown hg' (fun h => hne h.symm); have C3 : w'.cell? ⟨p, 3, none⟩ = some j := hB3.cell 3; have F3 : w'.frozen? ⟨p, 3, none⟩ = false := hB3.frozen 3; obtain ⟨A, c, hv2⟩ := ownsRow_slice hv'; subst hv2)
  all_goals (go_end0; exact ⟨rfl, fin _ _ _ hv' hg' hB3⟩)
end Go.Proofs.YtipehnojibdfeaaGreat
