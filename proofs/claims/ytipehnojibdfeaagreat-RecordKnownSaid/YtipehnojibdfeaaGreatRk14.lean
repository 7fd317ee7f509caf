/- Parts of the proof, as they were built: Law1, Prim10, Prim11, Prim12, Works. -/
import Derived.Test.YtipehnojibdfeaaGreatRk10
import Derived.Test.YtipehnojibdfeaaGreatRk13

/- the law of the kind of terms: what was sealed is opened, and with nothing else. -/
namespace Go.Proofs.YtipehnojibdfeaaGreat
open Go Go.Proofs Go.RowKit

def Unlike (s : List UInt8) : Prop := ¬ (s.length = 8 ∧ s.take 4 = markL)
def NoMade (T : List Node) : Prop := ∀ x ∈ T, (∃ n, x = .name n) ∨ ∃ s, x = .data s
theorem nodeOf_text (T : List Node) (n : Nat) (hn : n < T.length) (hl : T.length ≤ 4294967296) : nodeOf T (textL n) = T[n]? := by
  unfold nodeOf
  rw [numOf_text _ _ hn hl]; rfl
theorem nodeOf_unlike (T : List Node) {s : List UInt8} (h : Unlike s) : nodeOf T s = none := by
  unfold nodeOf
  rw [numOf_unlike h]; rfl
theorem putN_new (T : List Node) (x : Node) (h : findN T x.key = none) : putN T x = (T ++ [x], T.length) := by
  unfold putN; rw [h]
theorem partN_text (T : List Node) (n : Nat) (hn : n < T.length) (hl : T.length ≤ 4294967296) : partN T (textL n) = (T, n) := by
  unfold partN; rw [numOf_text _ _ hn hl]
theorem partN_unlike (T : List Node) {s : List UInt8} (hT : NoMade T) (h : Unlike s) :
    ∃ ext n, partN T s = (T ++ ext, n) ∧ NoMade (T ++ ext) ∧ ext.length ≤ 1 ∧ n < (T ++ ext).length ∧ (T ++ ext)[n]? = some (.data s) := by
  unfold partN
  rw [numOf_unlike h]
  unfold putN
  cases hf : findN T (Node.data s).key with
  | some i =>
    obtain ⟨x, hx, hk⟩ := findN_lt hf
    refine ⟨[], i, by simp, by simpa using hT, by simp, ?_, ?_⟩
    · have := (List.getElem?_eq_some_iff.1 hx).1
      simpa using this
    · rw [List.append_nil, hx]
      rcases hT x (List.mem_of_getElem? hx) with ⟨n, rfl⟩ | ⟨d, rfl⟩
      · simp [Node.key] at hk
      · simp [Node.key] at hk; rw [hk]
  | none =>
    refine ⟨[.data s], T.length, rfl, ?_, by simp, by simp, by simp⟩
    intro x hx
    rcases List.mem_append.1 hx with h1 | h1
    · exact hT x h1
    · simp at h1; exact .inr ⟨s, h1⟩
theorem partsL_head (l : List UInt8) (ps : List Nat) : ∀ x r, l = x :: r → ∃ r', partsL l ps = x :: r' := by
  induction ps generalizing l with
  | nil => intro x r h; exact ⟨r, h⟩
  | cons p ps ih => intro x r h; exact ih _ x (r ++ numTo (p : Int) 4 4) (by rw [h]; rfl)
theorem made_key (k n : Nat) (l : List UInt8) (ps : List Nat) : ∃ r, (Node.made k n l ps).key = 109 :: r :=
  partsL_head _ ps 109 _ rfl
theorem findN_made {T : List Node} (hT : NoMade T) (k n : Nat) (l : List UInt8) (ps : List Nat) : findN T (Node.made k n l ps).key = none := by
  cases hf : findN T (Node.made k n l ps).key with
  | none => rfl
  | some i =>
    obtain ⟨x, hx, hk⟩ := findN_lt hf
    obtain ⟨r, hr⟩ := made_key k n l ps
    rw [hr] at hk
    rcases hT x (List.mem_of_getElem? hx) with ⟨n, rfl⟩ | ⟨d, rfl⟩
    · simp [Node.key] at hk
    · simp [Node.key] at hk

/-- two secrets -/
def twoT : List Node := [.name 0, .name 1]
/-- what is sealed with the first of two secrets: the table behind it, and what is opened in it -/
theorem sealed_terms (nonce ad text : List UInt8) (h1 : Unlike nonce) (h2 : Unlike ad) (h3 : Unlike text) :
    ∃ T N, makeN twoT 6 [] [textL 0, nonce, ad, text] = (T, N) ∧ N < T.length ∧ T.length ≤ 6 ∧
      openN T (textL 0) nonce ad (textL N) = some text ∧
      openN T (textL 1) nonce ad (textL N) = none ∧
      (∀ nonce' ad', Unlike nonce' → Unlike ad' → openN T (textL 0) nonce' ad' (textL N) = if nonce' = nonce ∧ ad' = ad then some text else none) := by
  have hT0 : NoMade twoT := by
    intro x hx
    simp [twoT] at hx
    rcases hx with rfl | rfl <;> exact .inl ⟨_, rfl⟩
  have e0 : partN twoT (textL 0) = (twoT, 0) := partN_text _ 0 (by simp [twoT]) (by simp [twoT])
  obtain ⟨x1, n1, e1, hT1, l1, b1, g1⟩ := partN_unlike twoT hT0 h1
  obtain ⟨x2, n2, e2, hT2, l2, b2, g2⟩ := partN_unlike _ hT1 h2
  obtain ⟨x3, n3, e3, hT3, l3, b3, g3⟩ := partN_unlike _ hT2 h3
  have hp : partsN twoT [] [textL 0, nonce, ad, text] = (twoT ++ x1 ++ x2 ++ x3, [0, n1, n2, n3]) := by
    simp only [partsN, e0, e1, e2, e3]
    rfl
  have hm : madeN (twoT ++ x1 ++ x2 ++ x3) 6 [] [0, n1, n2, n3] = .made 6 0 [] [0, n1, n2, n3] := rfl
  have hk : makeN twoT 6 [] [textL 0, nonce, ad, text] = (twoT ++ x1 ++ x2 ++ x3 ++ [.made 6 0 [] [0, n1, n2, n3]], (twoT ++ x1 ++ x2 ++ x3).length) := by
    unfold makeN
    rw [hp]
    show putN (twoT ++ x1 ++ x2 ++ x3) (madeN (twoT ++ x1 ++ x2 ++ x3) 6 [] [0, n1, n2, n3]) = _
    rw [hm, putN_new _ _ (findN_made hT3 _ _ _ _)]
  obtain ⟨T, hT⟩ : ∃ T, T = twoT ++ x1 ++ x2 ++ x3 ++ [.made 6 0 [] [0, n1, n2, n3]] := ⟨_, rfl⟩
  obtain ⟨N, hN⟩ : ∃ N, N = (twoT ++ x1 ++ x2 ++ x3).length := ⟨_, rfl⟩
  have hlen : T.length = N + 1 := by rw [hT, hN]; simp; omega
  have hN5 : N ≤ 5 := by rw [hN]; simp [twoT]; omega
  have c0 : T[0]? = some (.name 0) := by rw [hT]; simp [twoT]
  have c1' : T[1]? = some (.name 1) := by rw [hT]; simp [twoT]
  have b1' : n1 < N := by rw [hN]; simp at b1 ⊢; omega
  have b2' : n2 < N := by rw [hN]; simp at b2 ⊢; omega
  have b3' : n3 < N := by rw [hN]; simp at b3 ⊢; omega
  have gT : ∀ (n : Nat) (x : Node) (L R : List Node), L ++ R = T → L[n]? = some x → T[n]? = some x := by
    intro n x L R hLR hx
    rw [← hLR, List.getElem?_append_left (List.getElem?_eq_some_iff.1 hx).1, hx]
  have d1 : T[n1]? = some (.data nonce) := gT n1 _ _ (x2 ++ x3 ++ [.made 6 0 [] [0, n1, n2, n3]]) (by rw [hT]; simp) g1
  have d2 : T[n2]? = some (.data ad) := gT n2 _ _ (x3 ++ [.made 6 0 [] [0, n1, n2, n3]]) (by rw [hT]; simp) g2
  have d3 : T[n3]? = some (.data text) := gT n3 _ _ [.made 6 0 [] [0, n1, n2, n3]] (by rw [hT]) g3
  have dN : T[N]? = some (.made 6 0 [] [0, n1, n2, n3]) := by rw [hT, hN]; simp
  have nN := nodeOf_text T N (by omega) (by omega)
  have k0 := nodeOf_text T 0 (by omega) (by omega)
  have k1 := nodeOf_text T 1 (by rw [hlen, hN]; simp [twoT]) (by omega)
  have m1 := nodeOf_text T n1 (by omega) (by omega)
  have m2 := nodeOf_text T n2 (by omega) (by omega)
  have m3 := nodeOf_text T n3 (by omega) (by omega)
  rw [dN] at nN
  rw [c0] at k0
  rw [c1'] at k1
  rw [d1] at m1
  rw [d2] at m2
  rw [d3] at m3
  have o : ∀ key non a', openN T key non a' (textL N) = if isN T key 0 && isN T non n1 && isN T a' n2 then some text else none := by
    intro key non a'
    unfold openN
    rw [nN]
    simp [partT, m3]
  have i0 : isN T (textL 0) 0 = true := by unfold isN; rw [k0]; simp
  have i1 : isN T (textL 1) 0 = false := by
    unfold isN; rw [k1]
    simp only [beq_eq_false_iff_ne, ne_eq]
    intro h
    have := textL_inj (by omega) (by omega) h
    omega
  have i2 : ∀ s, Unlike s → isN T s n1 = (s == nonce) := by intro s hs; unfold isN; rw [nodeOf_unlike T hs, m1]
  have i3 : ∀ s, Unlike s → isN T s n2 = (s == ad) := by intro s hs; unfold isN; rw [nodeOf_unlike T hs, m2]
  refine ⟨T, N, by rw [hk, hT, hN], by omega, by omega, ?_, ?_, ?_⟩
  · rw [o, i0, i2 _ h1, i3 _ h2]; simp
  · rw [o, i1]; simp
  · intro n' a' hn ha
    rw [o, i0, i2 _ hn, i3 _ ha]
    by_cases e1 : n' = nonce <;> by_cases e2 : a' = ad <;> simp [e1, e2]
end Go.Proofs.YtipehnojibdfeaaGreat

/- prim's did, of any kind; a prim of terms. -/
namespace Go.Proofs.YtipehnojibdfeaaGreat
open Go Go.Proofs Go.RowKit

def primCells (c0 c1 c2 j : Value) : Array Value := #[c0, c1, c2, j]
/-- a prim that lies at p, its journal a row behind 'base' -/
def PrimAt (w : World) (base p n : Nat) (c0 c1 c2 : Value) : Prop :=
  ∃ j xs, Blk w p 56 (primCells c0 c1 c2 j) ∧ w.ownsRow base 60 6 j n xs ∧ j.ownBlock ≠ some p ∧ ∀ u ∈ xs, u.oneCell' = true
theorem PrimAt.far_ {w w' : World} {base p n : Nat} {c0 c1 c2 : Value} {Q : Obj → Prop} (h : PrimAt w base p n c0 c1 c2) (hf : Far Q w w') (h1 : ∀ cs, Q (.cells cs 56 (0, 0))) (h2 : ∀ cs, Q (.cells cs 60 (0, 0))) : PrimAt w' base p n c0 c1 c2 := by
  obtain ⟨j, xs, hB, hJ, hne⟩ := h
  exact ⟨j, xs, hB.far_ hf (h1 _), ownsRow_far hJ hf h2, hne⟩
theorem PrimAt.later {w w' : World} {base p n : Nat} {c0 c1 c2 : Value} (h : PrimAt w base p n c0 c1 c2) (hb : Below w.heap.size w w') : PrimAt w' base p n c0 c1 c2 :=
  h.far_ (Q := fun _ => True) (Far.of_below hb) (fun _ => trivial) (fun _ => trivial)

set_option maxHeartbeats 2000000 in
theorem did2_any (w : World) (base p n : Nat) (c0 c1 c2 : Value) (hp : PrimAt w base p n c0 c1 c2) (hn : n ≤ 1000000) (hb : base ≤ w.heap.size) (hbp : base ≤ p) (k : Int) (key nonce ad text out : ByteArray) :
    Calls Tryz.prog 29 #[.pointer (some ⟨p, 0, none⟩), .agg (deedCells k key nonce ad text out).toArray] w fun e w' => e = .returned (.tuple #[]) ∧ PrimAt w' base p (n + 1) c0 c1 c2 ∧ Below base w w' ∧ Far notPrim w w' := by
  obtain ⟨j, xs, hB, hJ, hne, h1x⟩ := hp
  have H1X : Hid (∀ u ∈ xs, u.oneCell' = true) := h1x
  clear h1x
  go_enter Tryz.func29, Tryz.ntmps29
  go_wp2_with fail
  obtain ⟨w1, hw1⟩ : ∃ w1, w1 = w.alloc (.cells (deedCells k key nonce ad text out).toArray 60) := ⟨_, rfl⟩
  have hD : Blk w1 w.heap.size 60 (deedCells k key nonce ad text out).toArray := by rw [hw1]; exact Blk.new _ _ _
  have hB1 : Blk w1 p 56 (primCells c0 c1 c2 j) := by rw [hw1]; exact hB.alloc _
  have hJ1 : w1.ownsRow base 60 6 j n xs := by rw [hw1]; exact hJ.alloc _
  have q1 : Below w.heap.size w w1 := by rw [hw1]; exact (Below.refl _ _).alloc (Nat.le_refl _) _
  first | rw [← hw1] | skip
  clear hw1 hB hJ
  have C0 : w1.cell? ⟨p, 3, none⟩ = some j := hB1.cell 3
  have F0 : w1.frozen? ⟨p, 3, none⟩ = false := hB1.frozen 3
  have D0 : w1.cell? ⟨w.heap.size, 0, none⟩ = some (.int .i64 k) := hD.cell 0
  have D1 : w1.cell? ⟨w.heap.size, 1, none⟩ = some (.string key) := hD.cell 1
  have D2 : w1.cell? ⟨w.heap.size, 2, none⟩ = some (.string nonce) := hD.cell 2
  have D3 : w1.cell? ⟨w.heap.size, 3, none⟩ = some (.string ad) := hD.cell 3
  have D4 : w1.cell? ⟨w.heap.size, 4, none⟩ = some (.string text) := hD.cell 4
  have D5 : w1.cell? ⟨w.heap.size, 5, none⟩ = some (.string out) := hD.cell 5
  have hJd : w1.drew.ownsRow base 60 6 j n xs := hJ1
  have hBd : Blk w1.drew p 56 (primCells c0 c1 c2 j) := hB1
  have hJ2 := hJd.alloc (.cells #[.int .i64 k, .string key, .string nonce, .string ad, .string text, .string out] 60)
  have hB2 := hBd.alloc (.cells #[.int .i64 k, .string key, .string nonce, .string ad, .string text, .string out] 60)
  have hnews : ∀ i u, (deedCells k key nonce ad text out)[i]? = some u → (w1.drew.alloc (.cells #[.int .i64 k, .string key, .string nonce, .string ad, .string text, .string out] 60)).cell? ((⟨w1.heap.size, 0, none⟩ : Addr).add i) = some u := by
    intro i u hi
    rw [addr_add, Nat.zero_add, show (w1.drew.alloc (.cells #[.int .i64 k, .string key, .string nonce, .string ad, .string text, .string out] 60)).cell? ⟨w1.heap.size, i, none⟩ = _ from (Blk.new w1.drew 60 _).cell i]
    simpa [deedCells] using hi
  have h1c : ∀ u ∈ deedCells k key nonce ad text out, u.oneCell' = true := by
    intro u hu
    simp [deedCells] at hu
    rcases hu with h | h | h | h | h | h <;> subst h <;> rfl
  have hbw : base ≤ (w1.drew.alloc (.cells #[.int .i64 k, .string key, .string nonce, .string ad, .string text, .string out] 60)).heap.size := by
    have := q1.size
    have e : (w1.drew.alloc (.cells #[.int .i64 k, .string key, .string nonce, .string ad, .string text, .string out] 60)).heap.size = w1.heap.size + 1 := by rw [World.size_alloc]; rfl
    omega
  obtain ⟨iD, zD, hi, hz, hs, hby, hzs⟩ := deedInfo
  have C0b : (w1.alloc (.cells #[.int .i64 k, .string key, .string nonce, .string ad, .string text, .string out] 60)).cell? ⟨p, 3, none⟩ = some j := (hB1.alloc _).cell 3
  have fin : ∀ (w' : World) (A : Option Addr) (c : Nat), w'.ownsRow base 60 6 (.slice A (n + 1) c) (n + 1) (xs ++ deedCells k key nonce ad text out) → (w1.drew.alloc (.cells #[.int .i64 k, .string key, .string nonce, .string ad, .string text, .string out] 60)).grownBy w' j.ownBlock → Blk w' p 56 (primCells c0 c1 c2 j) → PrimAt (w'.setCell ⟨p, 3, none⟩ (.slice A (n + 1) c)) base p (n + 1) c0 c1 c2 ∧ Below base w (w'.setCell ⟨p, 3, none⟩ (.slice A (n + 1) c)) ∧ Far notPrim w (w'.setCell ⟨p, 3, none⟩ (.slice A (n + 1) c)) := by
    intro w' A c hv hg hB3
    have hne2 := own_blk_ne hv hB3 (by decide)
    refine ⟨⟨_, _, hB3.set_ 3 _, hv.kept (grownBy_set (grownBy_refl _ _) _) (.inr hne2), hne2, fun u hu => (List.mem_append.1 hu).elim (H1X.out u) (h1c u)⟩, ?_⟩
    have b1 : Below base w (w1.drew.alloc (.cells #[.int .i64 k, .string key, .string nonce, .string ad, .string text, .string out] 60)) := (show Below base w w1.drew from ⟨q1.os, q1.tape, q1.output, q1.size, fun i hi => q1.block i (by omega)⟩).alloc (by show base ≤ w1.heap.size; have := q1.size; omega) _
    refine ⟨(b1.grown hg hbw (fun k hk => hJ1.ownBlock_ge hk)).setCell hbp _, ?_⟩
    have f1 : Far notPrim w w1 := Far.of_below q1
    have f2 : Far notPrim w1 (w1.drew.alloc (.cells #[.int .i64 k, .string key, .string nonce, .string ad, .string text, .string out] 60)) := Far.of_below (w := w1) ((Below.refl w1.heap.size w1).alloc (Nat.le_refl _) (.cells #[.int .i64 k, .string key, .string nonce, .string ad, .string text, .string out] 60) |> fun h => ⟨h.os, h.tape, h.output, h.size, h.block⟩)
    have f3 : Far notPrim (w1.drew.alloc (.cells #[.int .i64 k, .string key, .string nonce, .string ad, .string text, .string out] 60)) w' := Far.of_grown hg (fun i o h ho => by
      obtain ⟨cs, e⟩ := ownsRow_obj hJ2 h ho
      rw [e]; exact fun h => h.2 rfl)
    have f4 : Far notPrim w' (w'.setCell ⟨p, 3, none⟩ (.slice A (n + 1) c)) := Far.of_grown (grownBy_set (grownBy_refl w' (some p)) _) (fun i o h ho => by
      cases h
      rw [hB3] at ho; cases ho; exact fun h => h.1 rfl)
    exact ((f1.trans f2).trans f3).trans f4
  go_region_law (refine step_append_own rfl (.tmp 8) (.tmp 10) 49 rfl base 60 iD zD 6 88 Tryz.underlying49 hi hz hs hby hzs (by decide) j n xs rfl hJ2 ⟨w1.heap.size, 0, none⟩ 1 1 (deedCells k key nonce ad text out) rfl rfl hnews h1c (by unfold maxLen; omega) (by omega) hbw ?_; intro v' w' hv' hg'; have hB3 := hB2.grown hg' (fun h => hne h.symm); have C3 : w'.cell? ⟨p, 3, none⟩ = some j := hB3.cell 3; have F3 : w'.frozen? ⟨p, 3, none⟩ = false := hB3.frozen 3; obtain ⟨A, c, hv2⟩ := ownsRow_slice hv'; subst hv2)
  all_goals (go_end0; exact ⟨rfl, fin _ _ _ hv' hg' hB3⟩)
end Go.Proofs.YtipehnojibdfeaaGreat

/- prim of terms: New, none, Kit, Secret, Public, Dh. -/
namespace Go.Proofs.YtipehnojibdfeaaGreat
open Go Go.Proofs Go.RowKit

def symV (t : Nat) : Value := .agg #[.pointer (some ⟨t, 0, none⟩)]
/-- a prim of terms -/
def TermPrim (w : World) (base p n : Nat) (T : List Node) (k : Nat) : Prop :=
  ∃ t M, M ≤ w.heap.size ∧ base ≤ w.heap.size ∧ base ≤ p ∧ PrimAt w base p n (.int .i64 1) (.iface 78 (.agg #[.pointer (some ⟨t, 0, none⟩)])) (.pointer (some ⟨t, 0, none⟩)) ∧ TableAt w base t M T k
theorem TermPrim.later {w w' : World} {base p n : Nat} {T : List Node} {k : Nat} (h : TermPrim w base p n T k) (hb : Below w.heap.size w w') : TermPrim w' base p n T k := by
  obtain ⟨t, M, h1, h2, h3, h4, h5⟩ := h
  exact ⟨t, M, Nat.le_trans h1 hb.size, Nat.le_trans h2 hb.size, h3, h4.later hb, h5.later hb⟩

set_option maxRecDepth 100000 in
set_option maxHeartbeats 2000000 in
theorem newTerm_any (w : World) : Calls Tryz.prog 21 #[.int .i64 1] w fun e w' => (∃ p, e = .returned (.tuple #[.pointer (some ⟨p, 0, none⟩), .int .i64 0]) ∧ TermPrim w' w.heap.size p 0 [] 0) ∧ Below w.heap.size w w' := by
  have h := termNew_any w 0
  go_enter Tryz.func21, Tryz.ntmps21
  go_wp2_with fail
  refine h.mono ?_
  rintro e w1 ⟨t, rfl, ht, hT, b1⟩
  clear h
  go_wp2_with fail
  go_ret2
  have b2 := b1.alloc b1.size (.cells #[.int .i64 1, .iface 78 (.agg #[.pointer (some ⟨t, 0, none⟩)]), .pointer (some ⟨t, 0, none⟩), .slice none 0 0] 56)
  exact ⟨⟨_, rfl, t, 0, by omega, b2.size, b1.size, ⟨.slice none 0 0, [], Blk.new _ _ _, World.ownsRow_nil _ _ _ _, by simp [Value.ownBlock]⟩, hT.later ((Below.refl _ _).alloc (Nat.le_refl _) _)⟩, b2⟩

theorem noneT_any (w : World) (base p n : Nat) (T : List Node) (k : Nat) (hp : TermPrim w base p n T k) : Calls Tryz.prog 27 #[.pointer (some ⟨p, 0, none⟩)] w fun e w' => e = .returned (.bool false) ∧ w' = w := by
  obtain ⟨t, M, _, _, _, ⟨j, xs, hB, _, _⟩, _⟩ := hp
  have hc' : w.cell? ⟨p, 1, none⟩ = some (.iface 78 (.agg #[.pointer (some ⟨t, 0, none⟩)])) := hB.cell 1
  clear hB
  go_enter Tryz.func27, Tryz.ntmps27
  go_wp2_with fail
  go_ret
  exact ⟨rfl, rfl⟩
theorem kitT_any (w : World) (base p n : Nat) (T : List Node) (k : Nat) (hp : TermPrim w base p n T k) : Calls Tryz.prog 22 #[.pointer (some ⟨p, 0, none⟩)] w fun e w' => e = .returned (.int .i64 1) ∧ w' = w := by
  have h := noneT_any w base p n T k hp
  obtain ⟨t, M, _, _, _, ⟨j, xs, hB, _, _⟩, _⟩ := hp
  have hc' : w.cell? ⟨p, 0, none⟩ = some (.int .i64 1) := hB.cell 0
  clear hB
  go_enter Tryz.func22, Tryz.ntmps22
  go_wp2_with fail
  refine h.mono ?_
  rintro e w' ⟨rfl, hw⟩
  rw [hw]
  clear hw w' h
  go_wp2
  go_ret
  exact ⟨rfl, rfl⟩
theorem meetsT_secret (n : Nat) (W : World) (t : Nat) : (method (n + 1) 78 (.agg #[.pointer (some ⟨t, 0, none⟩)]) "missive/prim.secret").run Tryz.prog W = .ok (128, .agg #[.pointer (some ⟨t, 0, none⟩)]) W := by kernel_rfl
theorem meetsT_public (n : Nat) (W : World) (t : Nat) : (method (n + 1) 78 (.agg #[.pointer (some ⟨t, 0, none⟩)]) "missive/prim.public").run Tryz.prog W = .ok (126, .agg #[.pointer (some ⟨t, 0, none⟩)]) W := by kernel_rfl
theorem meetsT_dh (n : Nat) (W : World) (t : Nat) : (method (n + 1) 78 (.agg #[.pointer (some ⟨t, 0, none⟩)]) "missive/prim.dh").run Tryz.prog W = .ok (123, .agg #[.pointer (some ⟨t, 0, none⟩)]) W := by kernel_rfl
theorem meetsT_seal (n : Nat) (W : World) (t : Nat) : (method (n + 1) 78 (.agg #[.pointer (some ⟨t, 0, none⟩)]) "missive/prim.seal").run Tryz.prog W = .ok (127, .agg #[.pointer (some ⟨t, 0, none⟩)]) W := by kernel_rfl
theorem meetsT_open (n : Nat) (W : World) (t : Nat) : (method (n + 1) 78 (.agg #[.pointer (some ⟨t, 0, none⟩)]) "missive/prim.open").run Tryz.prog W = .ok (125, .agg #[.pointer (some ⟨t, 0, none⟩)]) W := by kernel_rfl
theorem notT_prim (cs : Array Value) : notTable (.cells cs 56 (0, 0)) := ⟨by decide, by decide⟩
theorem notT_deed (cs : Array Value) : notTable (.cells cs 60 (0, 0)) := ⟨by decide, by decide⟩

set_option maxRecDepth 100000 in
set_option maxHeartbeats 2000000 in
theorem secretT_any (w : World) (base p n : Nat) (T : List Node) (k : Nat) (hp : TermPrim w base p n T k) (hlen : T.length ≤ 60000) (hk : k ≤ 60000) (d : ByteArray) :
    Calls Tryz.prog 9 #[.pointer (some ⟨p, 0, none⟩), .string d] w fun e w' => e = .returned (.string (bs (textL (putN T (.name k)).2))) ∧ TermPrim w' base p n (putN T (.name k)).1 (k + 1) ∧ Below base w w' := by
  have h := noneT_any w base p n T k hp
  obtain ⟨t, M, hM, hb, hbp, hP, hT⟩ := hp
  have hs := symSecret_any w base t M T k hT hb hlen hk d
  obtain ⟨j, xs, hB, hJ, hne⟩ := hP
  have hc' : w.cell? ⟨p, 1, none⟩ = some (.iface 78 (.agg #[.pointer (some ⟨t, 0, none⟩)])) := hB.cell 1
  have HP : PrimAt w base p n (.int .i64 1) (.iface 78 (.agg #[.pointer (some ⟨t, 0, none⟩)])) (.pointer (some ⟨t, 0, none⟩)) := ⟨j, xs, hB, hJ, hne⟩
  clear hB hJ hne
  go_enter Tryz.func9, Tryz.ntmps9
  go_wp2_with fail
  refine h.mono ?_
  rintro e w' ⟨rfl, hw⟩
  rw [hw]
  clear hw w' h
  go_wp2_with fail
  rw [meetsT_secret]
  go_wp2_with fail
  refine hs.mono ?_
  rintro e w2 ⟨rfl, hT2, q2⟩
  clear hs
  go_wp2
  go_ret
  exact ⟨rfl, ⟨t, M, Nat.le_trans hM q2.1.size, Nat.le_trans hb q2.1.size, hbp, HP.far_ q2.2 notT_prim notT_deed, hT2⟩, q2.1⟩
set_option maxRecDepth 100000 in
set_option maxHeartbeats 2000000 in
theorem publicT_any (w : World) (base p n : Nat) (T : List Node) (k : Nat) (hp : TermPrim w base p n T k) (hlen : T.length ≤ 60000) (s : List UInt8) (hsl : s.length ≤ 65536) :
    Calls Tryz.prog 23 #[.pointer (some ⟨p, 0, none⟩), .string (bs s)] w fun e w' => e = .returned (.tuple #[.string (bs (textL (makeN T 3 [] [s]).2)), .int .i64 0]) ∧ TermPrim w' base p n (makeN T 3 [] [s]).1 k ∧ Below base w w' := by
  have h := noneT_any w base p n T k hp
  obtain ⟨t, M, hM, hb, hbp, hP, hT⟩ := hp
  have hs := symPublic_any w base t M T k hT hM hb hlen s hsl
  obtain ⟨j, xs, hB, hJ, hne⟩ := hP
  have hc' : w.cell? ⟨p, 1, none⟩ = some (.iface 78 (.agg #[.pointer (some ⟨t, 0, none⟩)])) := hB.cell 1
  have HP : PrimAt w base p n (.int .i64 1) (.iface 78 (.agg #[.pointer (some ⟨t, 0, none⟩)])) (.pointer (some ⟨t, 0, none⟩)) := ⟨j, xs, hB, hJ, hne⟩
  clear hB hJ hne
  go_enter Tryz.func23, Tryz.ntmps23
  go_wp2_with fail
  refine h.mono ?_
  rintro e w' ⟨rfl, hw⟩
  rw [hw]
  clear hw w' h
  go_wp2_with fail
  rw [meetsT_public]
  go_wp2_with fail
  refine hs.mono ?_
  rintro e w2 ⟨rfl, hT2, q2⟩
  clear hs
  go_wp2
  go_ret2
  exact ⟨rfl, ⟨t, _, Nat.le_refl _, Nat.le_trans hb q2.1.size, hbp, HP.far_ q2.2 notT_prim notT_deed, hT2⟩, q2.1⟩
set_option maxRecDepth 100000 in
set_option maxHeartbeats 2000000 in
theorem dhT_any (w : World) (base p n : Nat) (T : List Node) (k : Nat) (hp : TermPrim w base p n T k) (hlen : T.length ≤ 60000) (s u : List UInt8) (hsl : s.length ≤ 65536) (hul : u.length ≤ 65536) (hk4 : ∃ a b q n2 l2, (partsN T [] [s, u]).2 = [a, b] ∧ (partsN T [] [s, u]).1[b]? = some (.made 3 n2 l2 [q]) ∧ q ≤ 65536) :
    Calls Tryz.prog 24 #[.pointer (some ⟨p, 0, none⟩), .string (bs s), .string (bs u)] w fun e w' => e = .returned (.tuple #[.string (bs (textL (makeN T 4 [] [s, u]).2)), .int .i64 0]) ∧ TermPrim w' base p n (makeN T 4 [] [s, u]).1 k ∧ Below base w w' := by
  have h := noneT_any w base p n T k hp
  obtain ⟨t, M, hM, hb, hbp, hP, hT⟩ := hp
  have hs := symDh_any w base t M T k hT hM hb hlen s u hsl hul hk4
  obtain ⟨j, xs, hB, hJ, hne⟩ := hP
  have hc' : w.cell? ⟨p, 1, none⟩ = some (.iface 78 (.agg #[.pointer (some ⟨t, 0, none⟩)])) := hB.cell 1
  have HP : PrimAt w base p n (.int .i64 1) (.iface 78 (.agg #[.pointer (some ⟨t, 0, none⟩)])) (.pointer (some ⟨t, 0, none⟩)) := ⟨j, xs, hB, hJ, hne⟩
  clear hB hJ hne hk4
  go_enter Tryz.func24, Tryz.ntmps24
  go_wp2_with fail
  refine h.mono ?_
  rintro e w' ⟨rfl, hw⟩
  rw [hw]
  clear hw w' h
  go_wp2_with fail
  rw [meetsT_dh]
  go_wp2_with fail
  refine hs.mono ?_
  rintro e w2 ⟨rfl, hT2, q2⟩
  clear hs
  go_wp2
  go_ret2
  exact ⟨rfl, ⟨t, _, Nat.le_refl _, Nat.le_trans hb q2.1.size, hbp, HP.far_ q2.2 notT_prim notT_deed, hT2⟩, q2.1⟩
end Go.Proofs.YtipehnojibdfeaaGreat

/- prim of terms: Seal, Open. -/
namespace Go.Proofs.YtipehnojibdfeaaGreat
open Go Go.Proofs Go.RowKit

/-- all objects but those of prims and of tables -/
def notPT : Obj → Prop
  | .cells _ ty _ => ty ≠ 56 ∧ ty ≠ 60 ∧ ty ≠ 89 ∧ ty ≠ 199
  | .map _ _ => False
  | _ => True
theorem notPT_table : ∀ o, notPT o → notTable o := by
  intro o h
  cases o <;> first | exact ⟨h.2.2.1, h.2.2.2⟩ | exact h | trivial
theorem notPT_prim : ∀ o, notPT o → notPrim o := by
  intro o h
  cases o <;> first | exact ⟨h.1, h.2.1⟩ | trivial
set_option maxRecDepth 100000 in
set_option maxHeartbeats 4000000 in
theorem sealT2_any (w : World) (base p n : Nat) (T : List Node) (k : Nat) (hp : TermPrim w base p n T k) (hlen : T.length ≤ 60000) (hn : n ≤ 1000000) (s1 s2 s3 s4 : List UInt8) (h1 : s1.length ≤ 65536) (h2 : s2.length ≤ 16384) (h3 : s3.length ≤ 16384) (h4 : s4.length ≤ 16384) :
    Calls Tryz.prog 10 #[.pointer (some ⟨p, 0, none⟩), .string (bs s1), .string (bs s2), .string (bs s3), .string (bs s4)] w fun e w' => e = .returned (.tuple #[.string (bs (textL (makeN T 6 [] [s1, s2, s3, s4]).2)), .int .i64 0]) ∧ TermPrim w' base p (n + 1) (makeN T 6 [] [s1, s2, s3, s4]).1 k ∧ Below base w w' ∧ Far notPT w w' := by
  have h := noneT_any w base p n T k hp
  obtain ⟨t, M, hM, hb, hbp, hP, hT⟩ := hp
  have q1 : Below w.heap.size w (w.alloc (.cells #[.string (bs s2), .string (bs s3), .string (bs s4)] 9)) := (Below.refl _ _).alloc (Nat.le_refl _) _
  have hlong := long_any (w.alloc (.cells #[.string (bs s2), .string (bs s3), .string (bs s4)] 9)) [bs s2, bs s3, bs s4] (some ⟨w.heap.size, 0, none⟩) 3 3 _ (reads_three w _ _ _ _) (by omega)
  have hll : longL [bs s2, bs s3, bs s4] = false := by simp [longL, bs_size]; omega
  rw [hll] at hlong
  have hs := symSeal_any (w.alloc (.cells #[.string (bs s2), .string (bs s3), .string (bs s4)] 9)) base t M T k (hT.later q1) (Nat.le_trans hM q1.size) (Nat.le_trans hb q1.size) hlen s1 s2 s3 s4 h1 (by omega) (by omega) (by omega)
  have HP := hP.later q1
  obtain ⟨j, xs, hB, hJ, hne⟩ := hP
  have hc' : (w.alloc (.cells #[.string (bs s2), .string (bs s3), .string (bs s4)] 9)).cell? ⟨p, 1, none⟩ = some (.iface 78 (.agg #[.pointer (some ⟨t, 0, none⟩)])) := (hB.alloc _).cell 1
  clear hB hJ hne hll
  go_enter Tryz.func10, Tryz.ntmps10
  go_wp2_with fail
  refine h.mono ?_
  rintro e w' ⟨rfl, hw⟩
  rw [hw]
  clear hw w' h
  go_wp2_with fail
  refine hlong.mono ?_
  rintro e w' ⟨rfl, hw⟩
  rw [hw]
  clear hw w' hlong
  go_wp2_with fail
  rw [meetsT_seal]
  go_wp2_with fail
  refine hs.mono ?_
  rintro e w2 ⟨rfl, hT2, q2⟩
  clear hs
  have hP2 := HP.far_ q2.2 notT_prim notT_deed
  have q12 : Below base w w2 := (q1.mono hb).trans q2.1
  have hd := did2_any w2 base p n _ _ _ hP2 hn (Nat.le_trans hb q12.size) hbp 1 (bs s1) (bs s2) (bs s3) (bs s4) (bs (textL (makeN T 6 [] [s1, s2, s3, s4]).2))
  clear hc'
  go_wp2_with fail
  refine hd.mono ?_
  rintro e w3 ⟨rfl, hP3, c3, f3⟩
  have q3 : Below base w w3 := q12.trans c3
  clear hd
  go_wp2
  go_ret2
  exact ⟨rfl, ⟨t, _, c3.size, Nat.le_trans hb q3.size, hbp, hP3, hT2.notPrim f3⟩, q3, ((Far.of_below q1).trans (q2.2.mono notPT_table)).trans (f3.mono notPT_prim)⟩

theorem sealT_any (w : World) (base p n : Nat) (T : List Node) (k : Nat) (hp : TermPrim w base p n T k) (hlen : T.length ≤ 60000) (hn : n ≤ 1000000) (s1 s2 s3 s4 : List UInt8) (h1 : s1.length ≤ 65536) (h2 : s2.length ≤ 16384) (h3 : s3.length ≤ 16384) (h4 : s4.length ≤ 16384) :
    Calls Tryz.prog 10 #[.pointer (some ⟨p, 0, none⟩), .string (bs s1), .string (bs s2), .string (bs s3), .string (bs s4)] w fun e w' => e = .returned (.tuple #[.string (bs (textL (makeN T 6 [] [s1, s2, s3, s4]).2)), .int .i64 0]) ∧ TermPrim w' base p (n + 1) (makeN T 6 [] [s1, s2, s3, s4]).1 k ∧ Below base w w' := by
  exact (sealT2_any w base p n T k hp hlen hn s1 s2 s3 s4 h1 h2 h3 h4).mono fun e w' h => ⟨h.1, h.2.1, h.2.2.1⟩

set_option maxRecDepth 100000 in
set_option maxHeartbeats 2000000 in
/-- a text that is too long, of either kind -/
theorem seal_long (w : World) (p : Nat) (s1 s2 s3 s4 : ByteArray) (hl : longL [s2, s3, s4] = true) (hnone : Calls Tryz.prog 27 #[.pointer (some ⟨p, 0, none⟩)] w fun e w' => e = .returned (.bool false) ∧ w' = w) :
    Calls Tryz.prog 10 #[.pointer (some ⟨p, 0, none⟩), .string s1, .string s2, .string s3, .string s4] w fun e w' => e = .returned (.tuple #[.string ⟨#[]⟩, .int .i64 3]) ∧ Below w.heap.size w w' := by
  have hlong := long_any (w.alloc (.cells #[.string s2, .string s3, .string s4] 9)) [s2, s3, s4] (some ⟨w.heap.size, 0, none⟩) 3 3 _ (reads_three w _ _ _ _) (by omega)
  rw [hl] at hlong
  clear hl
  go_enter Tryz.func10, Tryz.ntmps10
  go_wp2_with fail
  refine hnone.mono ?_
  rintro e w' ⟨rfl, hw⟩
  rw [hw]
  clear hw w' hnone
  go_wp2_with fail
  refine hlong.mono ?_
  rintro e w' ⟨rfl, hw⟩
  rw [hw]
  clear hw w' hlong
  go_wp2
  go_ret2
  exact ⟨rfl, (Below.refl _ _).alloc (Nat.le_refl _) _⟩

set_option maxRecDepth 100000 in
set_option maxHeartbeats 4000000 in
theorem openT2_any (w : World) (base p n : Nat) (T : List Node) (k : Nat) (hp : TermPrim w base p n T k) (hlen : T.length ≤ 60000) (hn : n ≤ 1000000) (key nonce ad sealed : List UInt8) (hkl : key.length ≤ 9223372036854775807) (hnl : nonce.length ≤ 9223372036854775807) (hal : ad.length ≤ 9223372036854775807) (hsl : sealed.length ≤ 9223372036854775807)
    (m nd pa pb pc pd km j : Nat) (l nb cb txt : List UInt8) (hm : numOf T.length sealed = some m) (hx : T[m]? = some (.made 6 nd l [pa, pb, pc, pd])) (hpa : pa ≤ 65536)
    (hkm : numOf T.length key = some km) (hkx : T[km]? = some (.name j)) (hnn : numOf T.length nonce = none) (hnx : T[pb]? = some (.data nb)) (han : numOf T.length ad = none) (hax : T[pc]? = some (.data cb)) (htx : T[pd]? = some (.data txt))
    (b : Bool) (hbv : b = (decide (key = textL pa) && decide (nonce = nb) && decide (ad = cb))) :
    Calls Tryz.prog 11 #[.pointer (some ⟨p, 0, none⟩), .string (bs key), .string (bs nonce), .string (bs ad), .string (bs sealed)] w fun e w' => e = .returned (openR b txt) ∧ TermPrim w' base p (if b then n + 1 else n) T k ∧ Below base w w' ∧ Far notPT w w' := by
  have h := noneT_any w base p n T k hp
  obtain ⟨t, M, hM, hb, hbp, hP, hT⟩ := hp
  have hs := symOpen_any w base t M T k hT hlen key nonce ad sealed hkl hnl hal hsl m nd pa pb pc pd km j l nb cb txt hm hx hpa hkm hkx hnn hnx han hax htx _ _ _ rfl rfl rfl
  rw [← hbv] at hs
  have HP := hP
  obtain ⟨j', xs, hB, hJ, hne⟩ := hP
  have hc' : w.cell? ⟨p, 1, none⟩ = some (.iface 78 (.agg #[.pointer (some ⟨t, 0, none⟩)])) := hB.cell 1
  clear hB hJ hne hbv hm hx hkm hkx hnn hnx han hax htx
  go_enter Tryz.func11, Tryz.ntmps11
  go_wp2_with fail
  refine h.mono ?_
  rintro e w' ⟨rfl, hw⟩
  rw [hw]
  clear hw w' h
  go_wp2_with fail
  rw [meetsT_open]
  go_wp2_with fail
  refine hs.mono ?_
  rintro e w2 ⟨rfl, q2⟩
  clear hs
  have hP2 := HP.later q2
  have hT2 := hT.later q2
  have q2b := q2.mono hb
  cases b with
  | true =>
    have hd := did2_any w2 base p n _ _ _ hP2 hn (Nat.le_trans hb q2b.size) hbp 2 (bs key) (bs nonce) (bs ad) (bs sealed) (bs txt)
    clear hc' hT hP2
    unfold openR
    go_wp2_with fail
    refine hd.mono ?_
    rintro e w3 ⟨rfl, hP3, c3, f3⟩
    have q3 : Below base w w3 := q2b.trans c3
    clear hd
    go_wp2
    go_ret2
    exact ⟨rfl, ⟨t, M, Nat.le_trans hM q3.size, Nat.le_trans hb q3.size, hbp, hP3, hT2.notPrim f3⟩, q3, (Far.of_below q2).trans (f3.mono notPT_prim)⟩
  | false =>
    clear hc' hT
    unfold openR
    go_wp2
    go_ret2
    exact ⟨rfl, ⟨t, M, Nat.le_trans hM q2.size, Nat.le_trans hb q2.size, hbp, hP2, hT2⟩, q2b, Far.of_below q2⟩
theorem openT_any (w : World) (base p n : Nat) (T : List Node) (k : Nat) (hp : TermPrim w base p n T k) (hlen : T.length ≤ 60000) (hn : n ≤ 1000000) (key nonce ad sealed : List UInt8) (hkl : key.length ≤ 9223372036854775807) (hnl : nonce.length ≤ 9223372036854775807) (hal : ad.length ≤ 9223372036854775807) (hsl : sealed.length ≤ 9223372036854775807)
    (m nd pa pb pc pd km j : Nat) (l nb cb txt : List UInt8) (hm : numOf T.length sealed = some m) (hx : T[m]? = some (.made 6 nd l [pa, pb, pc, pd])) (hpa : pa ≤ 65536)
    (hkm : numOf T.length key = some km) (hkx : T[km]? = some (.name j)) (hnn : numOf T.length nonce = none) (hnx : T[pb]? = some (.data nb)) (han : numOf T.length ad = none) (hax : T[pc]? = some (.data cb)) (htx : T[pd]? = some (.data txt))
    (b : Bool) (hbv : b = (decide (key = textL pa) && decide (nonce = nb) && decide (ad = cb))) :
    Calls Tryz.prog 11 #[.pointer (some ⟨p, 0, none⟩), .string (bs key), .string (bs nonce), .string (bs ad), .string (bs sealed)] w fun e w' => e = .returned (openR b txt) ∧ TermPrim w' base p (if b then n + 1 else n) T k ∧ Below base w w' := by
  exact (openT2_any w base p n T k hp hlen hn key nonce ad sealed hkl hnl hal hsl m nd pa pb pc pd km j l nb cb txt hm hx hpa hkm hkx hnn hnx han hax htx b hbv).mono fun e w' h => ⟨h.1, h.2.1, h.2.2.1⟩

end Go.Proofs.YtipehnojibdfeaaGreat

/- prim's Journal; layer 10's works: the chapter's rows, played with terms; kit, like, odd. -/
namespace Go.Proofs.YtipehnojibdfeaaGreat
open Go Go.Proofs Go.RowKit

theorem ownsRow_row {w : World} {base : Nat} {e : TypeId} {size n : Nat} {v : Value} {xs : List Value} (h : w.ownsRow base e size v n xs) (hn : 0 < n) : ∃ g c, v = .slice (some ⟨g, 0, none⟩) n c := by
  rcases h.2 with ⟨_, hz⟩ | ⟨g, cap, cur, e1, _⟩
  · omega
  · exact ⟨g, cap, e1⟩
theorem sliceNil (W : World) (a : Addr) (n c : Nat) : (binOp BinOp.eql 49 (.slice (some a) n c) (.slice none 0 0)).run Tryz.prog W = .ok (.bool false) W := by kernel_rfl
set_option maxRecDepth 100000 in
set_option maxHeartbeats 2000000 in
theorem cloneDeeds_any (w : World) (base : Nat) (j : Value) (n : Nat) (xs : List Value) (hJ : w.ownsRow base 60 6 j n xs) (h1c : ∀ u ∈ xs, u.oneCell' = true) (hn : 0 < n) (hn2 : n ≤ 1000000) :
    Calls Tryz.prog 36 #[j] w fun e w' => (∃ A c, e = .returned (.slice A n c)) ∧ Below w.heap.size w w' := by
  obtain ⟨g, c, rfl⟩ := ownsRow_row hJ hn
  obtain ⟨iD, zD, hi, hz, hs, hby, hzs⟩ := deedInfo
  have hxl : xs.length = n * 6 := hJ.1
  have hcells := (hJ.alloc (.cells #[] 60)).cells (g := g) rfl
  have hown := World.ownsRow_made (size := 6) (e := 60) (base := w.heap.size) w #[] 0 (Nat.le_refl _) (by unfold maxLen; omega) rfl
  have hsn := fun W => sliceNil W ⟨g, 0, none⟩ n c
  clear hJ
  go_enter Tryz.func36, Tryz.ntmps36
  go_wp2_with (at_builtin; refine wpList_append_own _ rfl _ _ 49 rfl w.heap.size 60 iD zD 6 88 Tryz.underlying49 hi hz hs hby hzs (by decide) _ 0 [] rfl hown ⟨g, 0, none⟩ n c xs rfl hxl hcells h1c (by unfold maxLen; omega) (by omega) (by simp) ?_; intro v' w' hown' hgrow hnil)
  go_ret
  obtain ⟨A', c', hv'⟩ := ownsRow_slice hown'
  rw [Nat.zero_add] at hv'
  exact ⟨⟨A', c', by rw [← hv']; rfl⟩, ((Below.refl _ _).alloc (Nat.le_refl _) _).grown hgrow (by simp) (fun k hk => hown.ownBlock_ge hk)⟩
theorem journalT_any (w : World) (base p n : Nat) (T : List Node) (k : Nat) (hp : TermPrim w base p n T k) (hn : 0 < n) (hn2 : n ≤ 1000000) :
    Calls Tryz.prog 25 #[.pointer (some ⟨p, 0, none⟩)] w fun e w' => (∃ A c, e = .returned (.slice A n c)) ∧ Below w.heap.size w w' := by
  have h := noneT_any w base p n T k hp
  obtain ⟨t, M, _, _, _, ⟨j, xs, hB, hJ, hne, h1x⟩, _⟩ := hp
  have hcl := cloneDeeds_any w base j n xs hJ h1x hn hn2
  have hc' : w.cell? ⟨p, 3, none⟩ = some j := hB.cell 3
  clear hB hJ h1x
  go_enter Tryz.func25, Tryz.ntmps25
  go_wp2_with fail
  refine h.mono ?_
  rintro e w' ⟨rfl, hw⟩
  rw [hw]
  clear hw w' h
  go_wp2_with fail
  refine hcl.mono ?_
  rintro e w2 ⟨⟨A, c, rfl⟩, b2⟩
  clear hcl
  go_wp2
  go_ret
  exact ⟨⟨A, c, rfl⟩, b2⟩

def wT1 : List Node := [.name 0]
def wT3 : List Node := [.name 0, .name 1, .made 3 0 [] [0]]
def wT4 : List Node := [.name 0, .name 1, .made 3 0 [] [0], .made 3 0 [] [1]]
def wT5 : List Node := [.name 0, .name 1, .made 3 0 [] [0], .made 3 0 [] [1], .made 4 0 [] [0, 1]]
def wT9 : List Node := [.name 0, .name 1, .made 3 0 [] [0], .made 3 0 [] [1], .made 4 0 [] [0, 1], .data [110], .data [], .data [120], .made 6 0 [] [0, 5, 6, 7]]
theorem e1 : putN [] (.name 0) = (wT1, 0) := by kernel_rfl
theorem e2 : putN wT1 (.name 1) = (twoT, 1) := by kernel_rfl
theorem e3 : makeN twoT 3 [] [textL 0] = (wT3, 2) := by kernel_rfl
theorem e4 : makeN wT3 3 [] [textL 1] = (wT4, 3) := by kernel_rfl
theorem e5 : makeN wT4 4 [] [textL 0, textL 3] = (wT5, 4) := by kernel_rfl
theorem e6 : makeN wT5 4 [] [textL 1, textL 2] = (wT5, 4) := by kernel_rfl
theorem e7 : makeN wT5 6 [] [textL 0, [110], [], [120]] = (wT9, 8) := by kernel_rfl
theorem e8 : numOf wT9.length (textL 8) = some 8 := by kernel_rfl
theorem e9 : numOf wT9.length (textL 0) = some 0 := by kernel_rfl
theorem e10 : numOf wT9.length (textL 1) = some 1 := by kernel_rfl
theorem e11 : (decide (textL 0 = textL 0) && decide (([110] : List UInt8) = [110]) && decide (([] : List UInt8) = [])) = true := by decide
theorem e12 : (decide (textL 1 = textL 0) && decide (([110] : List UInt8) = [110]) && decide (([] : List UInt8) = [])) = false := by decide

set_option maxRecDepth 100000 in
set_option maxHeartbeats 8000000 in
theorem works10_any (w : World) : Calls Tryz.prog 7 #[] w fun e w' => e = .returned (.bool true) ∧ Below w.heap.size w w' := by
  obtain ⟨sa, hsa⟩ : ∃ sa, sa = bs (textL 0) := ⟨_, rfl⟩
  obtain ⟨sb, hsb⟩ : ∃ sb, sb = bs (textL 1) := ⟨_, rfl⟩
  obtain ⟨sx, hsx⟩ : ∃ sx, sx = bs (textL 2) := ⟨_, rfl⟩
  obtain ⟨sy, hsy⟩ : ∃ sy, sy = bs (textL 3) := ⟨_, rfl⟩
  obtain ⟨sk, hsk⟩ : ∃ sk, sk = bs (textL 4) := ⟨_, rfl⟩
  obtain ⟨se, hse⟩ : ∃ se, se = bs (textL 8) := ⟨_, rfl⟩
  have k1 : (sa.toList == sb.toList) = false := by rw [hsa, hsb, bs_beq]; decide
  have k2 : sk.toList.isEmpty = false := by rw [hsk, Lib.toList_data, bs_list]; decide
  have k3 : (sk.toList == sk.toList) = true := by simp
  have k4 : ((bs [120]).toList == [120]) = true := by rw [Lib.toList_data, bs_list]; decide
  have c1 := newTerm_any w
  have c2 : ∀ W p n, TermPrim W w.heap.size p n [] 0 → Calls Tryz.prog 9 #[.pointer (some ⟨p, 0, none⟩), .string ⟨#[]⟩] W fun e w' => e = .returned (.string sa) ∧ TermPrim w' w.heap.size p n wT1 1 ∧ Below w.heap.size W w' := fun W p n h => by
    have c := secretT_any W w.heap.size p n [] 0 h (by simp) (by omega) ⟨#[]⟩
    rw [e1] at c; rw [hsa]; exact c
  have c3 : ∀ W p n, TermPrim W w.heap.size p n wT1 1 → Calls Tryz.prog 9 #[.pointer (some ⟨p, 0, none⟩), .string ⟨#[]⟩] W fun e w' => e = .returned (.string sb) ∧ TermPrim w' w.heap.size p n twoT 2 ∧ Below w.heap.size W w' := fun W p n h => by
    have c := secretT_any W w.heap.size p n wT1 1 h (by simp [wT1]) (by omega) ⟨#[]⟩
    rw [e2] at c; rw [hsb]; exact c
  have c4 : ∀ W p n, TermPrim W w.heap.size p n twoT 2 → Calls Tryz.prog 23 #[.pointer (some ⟨p, 0, none⟩), .string sa] W fun e w' => e = .returned (.tuple #[.string sx, .int .i64 0]) ∧ TermPrim w' w.heap.size p n wT3 2 ∧ Below w.heap.size W w' := fun W p n h => by
    have c := publicT_any W w.heap.size p n twoT 2 h (by simp [twoT]) (textL 0) (by rw [textL_length]; omega)
    rw [e3] at c; rw [hsa, hsx]; exact c
  have c5 : ∀ W p n, TermPrim W w.heap.size p n wT3 2 → Calls Tryz.prog 23 #[.pointer (some ⟨p, 0, none⟩), .string sb] W fun e w' => e = .returned (.tuple #[.string sy, .int .i64 0]) ∧ TermPrim w' w.heap.size p n wT4 2 ∧ Below w.heap.size W w' := fun W p n h => by
    have c := publicT_any W w.heap.size p n wT3 2 h (by simp [wT3]) (textL 1) (by rw [textL_length]; omega)
    rw [e4] at c; rw [hsb, hsy]; exact c
  have c6 : ∀ W p n, TermPrim W w.heap.size p n wT4 2 → Calls Tryz.prog 24 #[.pointer (some ⟨p, 0, none⟩), .string sa, .string sy] W fun e w' => e = .returned (.tuple #[.string sk, .int .i64 0]) ∧ TermPrim w' w.heap.size p n wT5 2 ∧ Below w.heap.size W w' := fun W p n h => by
    have c := dhT_any W w.heap.size p n wT4 2 h (by simp [wT4]) (textL 0) (textL 3) (by rw [textL_length]; omega) (by rw [textL_length]; omega) ⟨0, 3, 1, 0, [], by kernel_rfl, by kernel_rfl, by omega⟩
    rw [e5] at c; rw [hsa, hsy, hsk]; exact c
  have c7 : ∀ W p n, TermPrim W w.heap.size p n wT5 2 → Calls Tryz.prog 24 #[.pointer (some ⟨p, 0, none⟩), .string sb, .string sx] W fun e w' => e = .returned (.tuple #[.string sk, .int .i64 0]) ∧ TermPrim w' w.heap.size p n wT5 2 ∧ Below w.heap.size W w' := fun W p n h => by
    have c := dhT_any W w.heap.size p n wT5 2 h (by simp [wT5]) (textL 1) (textL 2) (by rw [textL_length]; omega) (by rw [textL_length]; omega) ⟨1, 2, 0, 0, [], by kernel_rfl, by kernel_rfl, by omega⟩
    rw [e6] at c; rw [hsb, hsx, hsk]; exact c
  have c8 : ∀ W p, TermPrim W w.heap.size p 0 wT5 2 → Calls Tryz.prog 10 #[.pointer (some ⟨p, 0, none⟩), .string sa, .string ⟨#[110]⟩, .string ⟨#[]⟩, .string ⟨#[120]⟩] W fun e w' => e = .returned (.tuple #[.string se, .int .i64 0]) ∧ TermPrim w' w.heap.size p 1 wT9 2 ∧ Below w.heap.size W w' := fun W p h => by
    have c := sealT_any W w.heap.size p 0 wT5 2 h (by simp [wT5]) (by omega) (textL 0) [110] [] [120] (by rw [textL_length]; omega) (by simp) (by simp) (by simp)
    rw [e7] at c; rw [hsa, hse]; exact c
  have c9 : ∀ W p, TermPrim W w.heap.size p 1 wT9 2 → Calls Tryz.prog 11 #[.pointer (some ⟨p, 0, none⟩), .string sa, .string ⟨#[110]⟩, .string ⟨#[]⟩, .string se] W fun e w' => e = .returned (.tuple #[.string (bs [120]), .int .i64 0]) ∧ TermPrim w' w.heap.size p 2 wT9 2 ∧ Below w.heap.size W w' := fun W p h => by
    have c := openT_any W w.heap.size p 1 wT9 2 h (by simp [wT9]) (by omega) (textL 0) [110] [] (textL 8) (by rw [textL_length]; omega) (by simp) (by simp) (by rw [textL_length]; omega) 8 0 0 5 6 7 0 0 [] [110] [] [120] e8 rfl (by omega) e9 rfl (by kernel_rfl) rfl (by kernel_rfl) rfl rfl true e11.symm
    rw [hsa, hse]; exact c
  have c10 : ∀ W p, TermPrim W w.heap.size p 2 wT9 2 → Calls Tryz.prog 11 #[.pointer (some ⟨p, 0, none⟩), .string sb, .string ⟨#[110]⟩, .string ⟨#[]⟩, .string se] W fun e w' => e = .returned (.tuple #[.string (bs []), .int .i64 10]) ∧ TermPrim w' w.heap.size p 2 wT9 2 ∧ Below w.heap.size W w' := fun W p h => by
    have c := openT_any W w.heap.size p 2 wT9 2 h (by simp [wT9]) (by omega) (textL 1) [110] [] (textL 8) (by rw [textL_length]; omega) (by simp) (by simp) (by rw [textL_length]; omega) 8 0 0 5 6 7 1 1 [] [110] [] [120] e8 rfl (by omega) e10 rfl (by kernel_rfl) rfl (by kernel_rfl) rfl rfl false e12.symm
    rw [hsb, hse]; exact c
  have c11 : ∀ W p, TermPrim W w.heap.size p 2 wT9 2 → Calls Tryz.prog 25 #[.pointer (some ⟨p, 0, none⟩)] W fun e w' => (∃ A c, e = .returned (.slice A 2 c)) ∧ Below W.heap.size W w' := fun W p h => journalT_any W w.heap.size p 2 wT9 2 h (by omega) (by omega)
  have ck := fun W p T k (h : TermPrim W w.heap.size p 0 T k) => kitT_any W w.heap.size p 0 T k h
  clear hsa hsb hsx hsy hsk hse
  go_enter Tryz.func7, Tryz.ntmps7
  go_wp2_with fail
  refine c1.mono ?_
  rintro e w1 ⟨⟨p, rfl, t1⟩, b1⟩
  clear c1
  go_wp2_with fail
  refine (ck _ _ _ _ t1).mono ?_
  rintro e w' ⟨rfl, hw⟩
  rw [hw]
  clear hw w' ck
  go_wp2_with fail
  refine (c2 _ _ _ t1).mono ?_
  rintro e w2 ⟨rfl, t2, b2⟩
  clear c2
  have b12 := b1.trans b2
  clear b1 b2 t1
  go_wp2_with fail
  refine (c3 _ _ _ t2).mono ?_
  rintro e w3 ⟨rfl, t3, b3⟩
  clear c3
  have b13 := b12.trans b3
  clear b12 b3 t2
  go_wp2_with fail
  refine (c4 _ _ _ t3).mono ?_
  rintro e w4 ⟨rfl, t4, b4⟩
  clear c4
  have b14 := b13.trans b4
  clear b13 b4 t3
  go_wp2_with fail
  refine (c5 _ _ _ t4).mono ?_
  rintro e w5 ⟨rfl, t5, b5⟩
  clear c5
  have b15 := b14.trans b5
  clear b14 b5 t4
  go_wp2_with fail
  refine (c6 _ _ _ t5).mono ?_
  rintro e w6 ⟨rfl, t6, b6⟩
  clear c6
  have b16 := b15.trans b6
  clear b15 b6 t5
  go_wp2_with fail
  refine (c7 _ _ _ t6).mono ?_
  rintro e w7 ⟨rfl, t7, b7⟩
  clear c7
  have b17 := b16.trans b7
  clear b16 b7 t6
  go_wp2_with fail
  refine (c8 _ _ t7).mono ?_
  rintro e w8 ⟨rfl, t8, b8⟩
  clear c8
  have b18 := b17.trans b8
  clear b17 b8 t7
  go_wp2_with fail
  refine (c9 _ _ t8).mono ?_
  rintro e w9 ⟨rfl, t9, b9⟩
  clear c9
  have b19 := b18.trans b9
  clear b18 b9 t8
  go_wp2_with fail
  refine (c10 _ _ t9).mono ?_
  rintro e w10 ⟨rfl, t10, b10⟩
  clear c10
  have b20 := b19.trans b10
  clear b19 b10 t9
  go_wp2_with fail
  refine (c11 _ _ t10).mono ?_
  rintro e w11 ⟨⟨A, c, rfl⟩, b11⟩
  clear c11
  have b21 := b20.trans (b11.mono b20.size)
  clear b20 b11 t10
  go_wp2
  go_ret
  exact ⟨rfl, b21⟩

set_option maxRecDepth 100000 in
theorem kitReal_any (w : World) (K : Array Value) (h0 : K[0]? = some (.bool false)) : Calls Tryz.prog 6 #[.agg K] w fun e w' => (∃ p, e = .returned (.pointer (some ⟨p, 0, none⟩)) ∧ w.heap.size ≤ p ∧ RealPrim w' w.heap.size p 0) ∧ Below w.heap.size w w' := by
  have C0 : (w.alloc (.cells K 24)).cell? ⟨w.heap.size, 0, none⟩ = some (.bool false) := ((Blk.new w 24 K).cell 0).trans h0
  have hn := newReal (w.alloc (.cells K 24))
  clear h0
  go_enter Tryz.func6, Tryz.ntmps6
  go_wp2_with fail
  refine hn.mono ?_
  rintro e w2 ⟨rfl, hB, b2⟩
  clear hn C0
  go_wp2
  go_ret
  have b : Below w.heap.size w w2 := ((Below.refl _ _).alloc (Nat.le_refl _) _).trans (b2.mono (by simp))
  rw [World.size_alloc] at hB
  exact ⟨⟨_, rfl, by simp, .slice none 0 0, [], hB, World.ownsRow_nil _ _ _ _, by simp [Value.ownBlock]⟩, b⟩
set_option maxRecDepth 100000 in
theorem kitTerm_any (w : World) (K : Array Value) (h0 : K[0]? = some (.bool true)) : Calls Tryz.prog 6 #[.agg K] w fun e w' => (∃ base p, e = .returned (.pointer (some ⟨p, 0, none⟩)) ∧ w.heap.size ≤ base ∧ TermPrim w' base p 0 [] 0) ∧ Below w.heap.size w w' := by
  have C0 : (w.alloc (.cells K 24)).cell? ⟨w.heap.size, 0, none⟩ = some (.bool true) := ((Blk.new w 24 K).cell 0).trans h0
  have hn := newTerm_any (w.alloc (.cells K 24))
  clear h0
  go_enter Tryz.func6, Tryz.ntmps6
  go_wp2_with fail
  refine hn.mono ?_
  rintro e w2 ⟨⟨p, rfl, hp⟩, b2⟩
  clear hn C0
  go_wp2
  go_ret
  have b : Below w.heap.size w w2 := ((Below.refl _ _).alloc (Nat.le_refl _) _).trans (b2.mono (by simp))
  exact ⟨⟨_, _, rfl, by simp, hp⟩, b⟩

def likeB (s : List UInt8) : Bool := decide (s.length = 8 ∧ s.take 4 = markL)
set_option maxRecDepth 100000 in
theorem like_any (w : World) (s : ByteArray) : Calls Tryz.prog 26 #[.string s] w fun e w' => e = .returned (.bool (likeB s.data.toList)) ∧ w' = w := by
  have hsl : s.data.toList.length = s.size := rfl
  by_cases h8 : s.size = 8
  · have hk : ((s.size : Int) == 8) = true := by rw [beq_iff_eq]; omega
    have hex : s.extract 0 4 = bs (s.data.toList.take 4) := extract_take s.data.toList 4
    have hm : ((s.extract 0 4).toList == [240, 84, 82, 77]) = likeB s.data.toList := by
      rw [hex, Lib.toList_data, bs_list]
      unfold likeB
      rw [hsl]
      by_cases h : s.data.toList.take 4 = markL
      · simp [h, h8, markL]
      · simp only [h, and_false, decide_false]
        rw [beq_eq_false_iff_ne]; exact h
    clear hsl hex
    go_enter Tryz.func26, Tryz.ntmps26
    go_wp2_with fail
    go_ret
    exact ⟨rfl, rfl⟩
  · have hk : ((s.size : Int) == 8) = false := by rw [beq_eq_false_iff_ne]; omega
    have hm : likeB s.data.toList = false := by unfold likeB; rw [hsl]; simp [h8]
    clear hsl
    go_enter Tryz.func26, Tryz.ntmps26
    go_wp2_with fail
    go_ret
    exact ⟨by rw [hm]; rfl, rfl⟩

set_option maxRecDepth 100000 in
set_option maxHeartbeats 4000000 in
theorem odd_any (w : World) (K : Array Value) (terms : Bool) (s3 s4 s5 s9 s10 : ByteArray) (h0 : K[0]? = some (.bool terms)) (h3 : K[65]? = some (.string s3)) (h4 : K[66]? = some (.string s4)) (h5 : K[67]? = some (.string s5)) (h9 : K[71]? = some (.string s9)) (h10 : K[72]? = some (.string s10)) (b : Bool)
    (hb : b = (terms && (likeB s3.data.toList || likeB s4.data.toList || likeB s5.data.toList || likeB s9.data.toList || likeB s10.data.toList))) :
    Calls Tryz.prog 8 #[.agg K] w fun e w' => e = .returned (.bool b) ∧ Below w.heap.size w w' := by
  obtain ⟨w1, hw1⟩ : ∃ w1, w1 = w.alloc (.cells K 24) := ⟨_, rfl⟩
  have hB : Blk w1 w.heap.size 24 K := by rw [hw1]; exact Blk.new _ _ _
  have b1 : Below w.heap.size w w1 := by rw [hw1]; exact (Below.refl _ _).alloc (Nat.le_refl _) _
  have C0 : w1.cell? ⟨w.heap.size, 0, none⟩ = some (.bool terms) := (hB.cell 0).trans h0
  have C3 : w1.cell? ⟨w.heap.size, 65, none⟩ = some (.string s3) := (hB.cell 65).trans h3
  have C4 : w1.cell? ⟨w.heap.size, 66, none⟩ = some (.string s4) := (hB.cell 66).trans h4
  have C5 : w1.cell? ⟨w.heap.size, 67, none⟩ = some (.string s5) := (hB.cell 67).trans h5
  have C9 : w1.cell? ⟨w.heap.size, 71, none⟩ = some (.string s9) := (hB.cell 71).trans h9
  have C10 : w1.cell? ⟨w.heap.size, 72, none⟩ = some (.string s10) := (hB.cell 72).trans h10
  have l3 := like_any w1 s3
  have l4 := like_any w1 s4
  have l5 := like_any w1 s5
  have l9 := like_any w1 s9
  have l10 := like_any w1 s10
  obtain ⟨x3, hx3⟩ : ∃ x, x = likeB s3.data.toList := ⟨_, rfl⟩
  obtain ⟨x4, hx4⟩ : ∃ x, x = likeB s4.data.toList := ⟨_, rfl⟩
  obtain ⟨x5, hx5⟩ : ∃ x, x = likeB s5.data.toList := ⟨_, rfl⟩
  obtain ⟨x9, hx9⟩ : ∃ x, x = likeB s9.data.toList := ⟨_, rfl⟩
  obtain ⟨x10, hx10⟩ : ∃ x, x = likeB s10.data.toList := ⟨_, rfl⟩
  rw [← hx3] at l3 hb
  rw [← hx4] at l4 hb
  rw [← hx5] at l5 hb
  rw [← hx9] at l9 hb
  rw [← hx10] at l10 hb
  subst hw1
  have HB : Hid (b = (terms && (x3 || x4 || x5 || x9 || x10))) := hb
  clear hb hB h0 h3 h4 h5 h9 h10 hx3 hx4 hx5 hx9 hx10
  cases terms with
  | false =>
    go_enter Tryz.func8, Tryz.ntmps8
    go_wp2_with fail
    go_ret
    exact ⟨by rw [HB.out]; rfl, b1⟩
  | true =>
    cases x3 with
    | true =>
      go_enter Tryz.func8, Tryz.ntmps8
      go_wp2_with fail
      refine l3.mono ?_
      rintro e w' ⟨rfl, hw⟩
      rw [hw]
      clear hw w'
      go_wp2
      go_ret
      exact ⟨by rw [HB.out]; rfl, b1⟩
    | false =>
      cases x4 with
      | true =>
        go_enter Tryz.func8, Tryz.ntmps8
        go_wp2_with fail
        refine l3.mono ?_
        rintro e w' ⟨rfl, hw⟩
        rw [hw]
        clear hw w'
        go_wp2_with fail
        refine l4.mono ?_
        rintro e w' ⟨rfl, hw⟩
        rw [hw]
        clear hw w'
        go_wp2
        go_ret
        exact ⟨by rw [HB.out]; rfl, b1⟩
      | false =>
        cases x5 with
        | true =>
          go_enter Tryz.func8, Tryz.ntmps8
          go_wp2_with fail
          refine l3.mono ?_
          rintro e w' ⟨rfl, hw⟩
          rw [hw]
          clear hw w'
          go_wp2_with fail
          refine l4.mono ?_
          rintro e w' ⟨rfl, hw⟩
          rw [hw]
          clear hw w'
          go_wp2_with fail
          refine l5.mono ?_
          rintro e w' ⟨rfl, hw⟩
          rw [hw]
          clear hw w'
          go_wp2
          go_ret
          exact ⟨by rw [HB.out]; rfl, b1⟩
        | false =>
          cases x9 with
          | true =>
            go_enter Tryz.func8, Tryz.ntmps8
            go_wp2_with fail
            refine l3.mono ?_
            rintro e w' ⟨rfl, hw⟩
            rw [hw]
            clear hw w'
            go_wp2_with fail
            refine l4.mono ?_
            rintro e w' ⟨rfl, hw⟩
            rw [hw]
            clear hw w'
            go_wp2_with fail
            refine l5.mono ?_
            rintro e w' ⟨rfl, hw⟩
            rw [hw]
            clear hw w'
            go_wp2_with fail
            refine l9.mono ?_
            rintro e w' ⟨rfl, hw⟩
            rw [hw]
            clear hw w'
            go_wp2
            go_ret
            exact ⟨by rw [HB.out]; rfl, b1⟩
          | false =>
            cases x10 with
            | true =>
              go_enter Tryz.func8, Tryz.ntmps8
              go_wp2_with fail
              refine l3.mono ?_
              rintro e w' ⟨rfl, hw⟩
              rw [hw]
              clear hw w'
              go_wp2_with fail
              refine l4.mono ?_
              rintro e w' ⟨rfl, hw⟩
              rw [hw]
              clear hw w'
              go_wp2_with fail
              refine l5.mono ?_
              rintro e w' ⟨rfl, hw⟩
              rw [hw]
              clear hw w'
              go_wp2_with fail
              refine l9.mono ?_
              rintro e w' ⟨rfl, hw⟩
              rw [hw]
              clear hw w'
              go_wp2_with fail
              refine l10.mono ?_
              rintro e w' ⟨rfl, hw⟩
              rw [hw]
              clear hw w'
              go_wp2
              go_ret
              exact ⟨by rw [HB.out]; rfl, b1⟩
            | false =>
              go_enter Tryz.func8, Tryz.ntmps8
              go_wp2_with fail
              refine l3.mono ?_
              rintro e w' ⟨rfl, hw⟩
              rw [hw]
              clear hw w'
              go_wp2_with fail
              refine l4.mono ?_
              rintro e w' ⟨rfl, hw⟩
              rw [hw]
              clear hw w'
              go_wp2_with fail
              refine l5.mono ?_
              rintro e w' ⟨rfl, hw⟩
              rw [hw]
              clear hw w'
              go_wp2_with fail
              refine l9.mono ?_
              rintro e w' ⟨rfl, hw⟩
              rw [hw]
              clear hw w'
              go_wp2_with fail
              refine l10.mono ?_
              rintro e w' ⟨rfl, hw⟩
              rw [hw]
              clear hw w'
              go_wp2
              go_ret
              exact ⟨by rw [HB.out]; rfl, b1⟩
end Go.Proofs.YtipehnojibdfeaaGreat
