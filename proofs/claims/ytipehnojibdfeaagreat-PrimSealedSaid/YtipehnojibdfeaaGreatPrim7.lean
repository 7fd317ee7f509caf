/- prim's did: a deed laid behind the journal. -/
import Derived.Test.YtipehnojibdfeaaGreatPrim6
import Derived.Deep.RegionLaw
namespace Go.Proofs.YtipehnojibdfeaaGreat
open Go Go.Proofs Go.RowKit

theorem step_append_own {P : Program} {ops : Array Oper} {o : Oper} {a : Act} {w : World} {K : Act → World → Prop} {Q : Exit → Act → World → Prop} {E : Prop}
    (hg : o.guard = none) (s x : Operand) (t : TypeId) (hop : o.op = Op.call { callee := Callee.builtin Builtin.append, args := #[s, x], argTypes := #[t, t] })
    (base : Nat) (e : TypeId) (i : TypeInfo) (z : Value) (size bytes : Nat) (ht : P.underlying t = some (.slice e)) (hi : P.info? e = some i) (hz : i.zero = some z)
    (hsize : i.size = size) (hby : i.bytes = bytes) (hzs : z.cells.size = size) (hsz : 0 < size)
    (v : Value) (n : Nat) (xs : List Value) (hs : a.eval s = v) (hown : w.ownsRow base e size v n xs)
    (ad : Addr) (m c : Nat) (news : List Value) (hx : a.eval x = .slice (some ad) m c) (hl : news.length = m * size) (hnews : ∀ j u, news[j]? = some u → w.cell? (ad.add j) = some u) (h1 : ∀ u ∈ news, u.oneCell' = true)
    (h63 : n + m ≤ maxLen) (hbytes : (n + m) * bytes ≤ 140737488355328) (hbase : base ≤ w.heap.size)
    (hK : ∀ v' w', w'.ownsRow base e size v' (n + m) (xs ++ news) → w.grownBy w' v.ownBlock → K (a.put o.dst v') w') :
    if Region.wanted o (yielded ops a.tmps) = true then Oper.wp P o a w K Q else E := by
  have hw : Region.wanted o (yielded ops a.tmps) = true := by simp [Region.wanted, hg]
  rw [if_pos hw]
  obtain ⟨v', w', hr, h2, h3, h4⟩ := run_append_own (P := P) w base t o.type e i z size bytes ht hi hz hsize hby hzs hsz v n xs hown ad m c news hl hnews h1 h63 hbytes hbase
  unfold Oper.wp execOp
  simp only [hop, resolve, invoke, builtin, Sem.run_bind, Sem.run_pure, Result.andThen_ok, List.map_toArray, List.map_cons, List.map_nil, hs, hx, hr]
  exact hK v' w' h2 h3

def deedCells (k : Int) (key nonce ad text out : ByteArray) : List Value := [.int .i64 k, .string key, .string nonce, .string ad, .string text, .string out]
/-- a prim of the real kind that lies at p, its journal a row behind 'base' -/
def RealPrim (w : World) (base p n : Nat) : Prop :=
  ∃ j xs, Blk w p 56 (realCells j) ∧ w.ownsRow base 60 6 j n xs ∧ j.ownBlock ≠ some p

theorem ownsRow_slice {w : World} {base : Nat} {e : TypeId} {size n : Nat} {v : Value} {xs : List Value} (h : w.ownsRow base e size v n xs) : ∃ A c, v = .slice A n c := by
  rcases h.2 with ⟨rfl, rfl⟩ | ⟨g, cap, cur, rfl, _⟩
  · exact ⟨none, 0, rfl⟩
  · exact ⟨_, _, rfl⟩
theorem deedInfo0 : ((Tryz.prog.info? 60).map fun i => (i.size, i.bytes, i.zero.map (·.cells.size))) = some (6, 88, some 6) := by kernel_rfl
theorem deedInfo : ∃ i z, Tryz.prog.info? 60 = some i ∧ i.zero = some z ∧ i.size = 6 ∧ i.bytes = 88 ∧ z.cells.size = 6 := by
  have h := deedInfo0
  cases hi : Tryz.prog.info? 60 with
  | none => rw [hi] at h; simp at h
  | some i =>
    rw [hi] at h
    simp at h
    obtain ⟨h1, h2, z, hz, h3⟩ := h
    exact ⟨i, z, rfl, hz, h1, h2, h3⟩

set_option maxHeartbeats 2000000 in
theorem did_any (w : World) (base p n : Nat) (hp : RealPrim w base p n) (hn : n ≤ 1000000) (hb : base ≤ w.heap.size) (hbp : base ≤ p) (k : Int) (key nonce ad text out : ByteArray) :
    Calls Tryz.prog 29 #[.pointer (some ⟨p, 0, none⟩), .agg (deedCells k key nonce ad text out).toArray] w fun e w' => e = .returned (.tuple #[]) ∧ RealPrim w' base p (n + 1) ∧ Below base w w' := by
  obtain ⟨j, xs, hB, hJ, hne⟩ := hp
  go_enter Tryz.func29, Tryz.ntmps29
  go_wp2_with fail
  obtain ⟨w1, hw1⟩ : ∃ w1, w1 = w.alloc (.cells (deedCells k key nonce ad text out).toArray 60) := ⟨_, rfl⟩
  have hD : Blk w1 w.heap.size 60 (deedCells k key nonce ad text out).toArray := by rw [hw1]; exact Blk.new _ _ _
  have hB1 : Blk w1 p 56 (realCells j) := by rw [hw1]; exact hB.alloc _
  have hJ1 : w1.ownsRow base 60 6 j n xs := by rw [hw1]; exact hJ.alloc _
  have q1 : Below w.heap.size w w1 := by rw [hw1]; exact (Below.refl _ _).alloc (Nat.le_refl _) _
  first | rw [← hw1] | skip
  clear hw1 hB hJ
  have C0 : w1.cell? ⟨p, 3, none⟩ = some j := hB1.cell 3
  have F0 : w1.frozen? ⟨p, 3, none⟩ = false := hB1.frozen 3
  have D0 : w1.cell? ⟨w.heap.size, 0, none⟩ = some (.int .i64 k) := hD.cell 0
  have D1 : w1.cell? ⟨w.heap.size, 1, none⟩ = some (.string key) := hD.cell 1
  have D2 : w1.cell? ⟨w.heap.size, 2, none⟩ = some (.string nonce) := hD.cell 2
  have D3 : w1.cell? ⟨w.heap.size, 3, none⟩ = some (.string ad) := hD.cell 3
  have D4 : w1.cell? ⟨w.heap.size, 4, none⟩ = some (.string text) := hD.cell 4
  have D5 : w1.cell? ⟨w.heap.size, 5, none⟩ = some (.string out) := hD.cell 5
  have hJd : w1.drew.ownsRow base 60 6 j n xs := hJ1
  have hBd : Blk w1.drew p 56 (realCells j) := hB1
  have hJ2 := hJd.alloc (.cells #[.int .i64 k, .string key, .string nonce, .string ad, .string text, .string out] 60)
  have hB2 := hBd.alloc (.cells #[.int .i64 k, .string key, .string nonce, .string ad, .string text, .string out] 60)
  have hnews : ∀ i u, (deedCells k key nonce ad text out)[i]? = some u → (w1.drew.alloc (.cells #[.int .i64 k, .string key, .string nonce, .string ad, .string text, .string out] 60)).cell? ((⟨w1.heap.size, 0, none⟩ : Addr).add i) = some u := by
    intro i u hi
    rw [addr_add, Nat.zero_add, show (w1.drew.alloc (.cells #[.int .i64 k, .string key, .string nonce, .string ad, .string text, .string out] 60)).cell? ⟨w1.heap.size, i, none⟩ = _ from (Blk.new w1.drew 60 _).cell i]
    simpa [deedCells] using hi
  have h1c : ∀ u ∈ deedCells k key nonce ad text out, u.oneCell' = true := by
    intro u hu
    simp [deedCells] at hu
    rcases hu with h | h | h | h | h | h <;> subst h <;> rfl
  have hbw : base ≤ (w1.drew.alloc (.cells #[.int .i64 k, .string key, .string nonce, .string ad, .string text, .string out] 60)).heap.size := by
    have := q1.size
    have e : (w1.drew.alloc (.cells #[.int .i64 k, .string key, .string nonce, .string ad, .string text, .string out] 60)).heap.size = w1.heap.size + 1 := by rw [World.size_alloc]; rfl
    omega
  obtain ⟨iD, zD, hi, hz, hs, hby, hzs⟩ := deedInfo
  have C0b : (w1.alloc (.cells #[.int .i64 k, .string key, .string nonce, .string ad, .string text, .string out] 60)).cell? ⟨p, 3, none⟩ = some j := (hB1.alloc _).cell 3
  have fin : ∀ (w' : World) (A : Option Addr) (c : Nat), w'.ownsRow base 60 6 (.slice A (n + 1) c) (n + 1) (xs ++ deedCells k key nonce ad text out) → (w1.drew.alloc (.cells #[.int .i64 k, .string key, .string nonce, .string ad, .string text, .string out] 60)).grownBy w' j.ownBlock → Blk w' p 56 (realCells j) → RealPrim (w'.setCell ⟨p, 3, none⟩ (.slice A (n + 1) c)) base p (n + 1) ∧ Below base w (w'.setCell ⟨p, 3, none⟩ (.slice A (n + 1) c)) := by
    intro w' A c hv hg hB3
    have hne2 := own_blk_ne hv hB3 (by decide)
    refine ⟨⟨_, _, hB3.set_ 3 _, hv.kept (grownBy_set (grownBy_refl _ _) _) (.inr hne2), hne2⟩, ?_⟩
    have b1 : Below base w (w1.drew.alloc (.cells #[.int .i64 k, .string key, .string nonce, .string ad, .string text, .string out] 60)) := (show Below base w w1.drew from ⟨q1.os, q1.tape, q1.output, q1.size, fun i hi => q1.block i (by omega)⟩).alloc (by show base ≤ w1.heap.size; have := q1.size; omega) _
    exact (b1.grown hg hbw (fun k hk => hJ1.ownBlock_ge hk)).setCell hbp _
  go_region_law (refine step_append_own rfl (.tmp 8) (.tmp 10) 49 rfl base 60 iD zD 6 88 Tryz.underlying49 hi hz hs hby hzs (by decide) j n xs rfl hJ2 ⟨w1.heap.size, 0, none⟩ 1 1 (deedCells k key nonce ad text out) rfl rfl hnews h1c (by unfold maxLen; omega) (by omega) hbw ?_; intro v' w' hv' hg'; have hB3 := hB2.grown hg' (fun h => hne h.symm); have C3 : w'.cell? ⟨p, 3, none⟩ = some j := hB3.cell 3; have F3 : w'.frozen? ⟨p, 3, none⟩ = false := hB3.frozen 3; obtain ⟨A, c, hv2⟩ := ownsRow_slice hv'; subst hv2)
  all_goals (go_end0; exact ⟨rfl, fin _ _ _ hv' hg' hB3⟩)
end Go.Proofs.YtipehnojibdfeaaGreat
