/- the law of the kind of terms: what was sealed is opened, and with nothing else. -/
import Derived.Test.YtipehnojibdfeaaGreatTerm1
namespace Go.Proofs.YtipehnojibdfeaaGreat
open Go Go.Proofs Go.RowKit

def Unlike (s : List UInt8) : Prop := ¬ (s.length = 8 ∧ s.take 4 = markL)
def NoMade (T : List Node) : Prop := ∀ x ∈ T, (∃ n, x = .name n) ∨ ∃ s, x = .data s
theorem nodeOf_text (T : List Node) (n : Nat) (hn : n < T.length) (hl : T.length ≤ 4294967296) : nodeOf T (textL n) = T[n]? := by
  unfold nodeOf
  rw [numOf_text _ _ hn hl]; rfl
theorem nodeOf_unlike (T : List Node) {s : List UInt8} (h : Unlike s) : nodeOf T s = none := by
  unfold nodeOf
  rw [numOf_unlike h]; rfl
theorem putN_new (T : List Node) (x : Node) (h : findN T x.key = none) : putN T x = (T ++ [x], T.length) := by
  unfold putN; rw [h]
theorem partN_text (T : List Node) (n : Nat) (hn : n < T.length) (hl : T.length ≤ 4294967296) : partN T (textL n) = (T, n) := by
  unfold partN; rw [numOf_text _ _ hn hl]
theorem partN_unlike (T : List Node) {s : List UInt8} (hT : NoMade T) (h : Unlike s) :
    ∃ ext n, partN T s = (T ++ ext, n) ∧ NoMade (T ++ ext) ∧ ext.length ≤ 1 ∧ n < (T ++ ext).length ∧ (T ++ ext)[n]? = some (.data s) := by
  unfold partN
  rw [numOf_unlike h]
  unfold putN
  cases hf : findN T (Node.data s).key with
  | some i =>
    obtain ⟨x, hx, hk⟩ := findN_lt hf
    refine ⟨[], i, by simp, by simpa using hT, by simp, ?_, ?_⟩
    · have := (List.getElem?_eq_some_iff.1 hx).1
      simpa using this
    · rw [List.append_nil, hx]
      rcases hT x (List.mem_of_getElem? hx) with ⟨n, rfl⟩ | ⟨d, rfl⟩
      · simp [Node.key] at hk
      · simp [Node.key] at hk; rw [hk]
  | none =>
    refine ⟨[.data s], T.length, rfl, ?_, by simp, by simp, by simp⟩
    intro x hx
    rcases List.mem_append.1 hx with h1 | h1
    · exact hT x h1
    · simp at h1; exact .inr ⟨s, h1⟩
theorem partsL_head (l : List UInt8) (ps : List Nat) : ∀ x r, l = x :: r → ∃ r', partsL l ps = x :: r' := by
  induction ps generalizing l with
  | nil => intro x r h; exact ⟨r, h⟩
  | cons p ps ih => intro x r h; exact ih _ x (r ++ numTo (p : Int) 4 4) (by rw [h]; rfl)
theorem made_key (k n : Nat) (l : List UInt8) (ps : List Nat) : ∃ r, (Node.made k n l ps).key = 109 :: r :=
  partsL_head _ ps 109 _ rfl
theorem findN_made {T : List Node} (hT : NoMade T) (k n : Nat) (l : List UInt8) (ps : List Nat) : findN T (Node.made k n l ps).key = none := by
  cases hf : findN T (Node.made k n l ps).key with
  | none => rfl
  | some i =>
    obtain ⟨x, hx, hk⟩ := findN_lt hf
    obtain ⟨r, hr⟩ := made_key k n l ps
    rw [hr] at hk
    rcases hT x (List.mem_of_getElem? hx) with ⟨n, rfl⟩ | ⟨d, rfl⟩
    · simp [Node.key] at hk
    · simp [Node.key] at hk

/-- two secrets -/
def twoT : List Node := [.name 0, .name 1]
/-- what is sealed with the first of two secrets: the table behind it, and what is opened in it -/
theorem sealed_terms (nonce ad text : List UInt8) (h1 : Unlike nonce) (h2 : Unlike ad) (h3 : Unlike text) :
    ∃ T N, makeN twoT 6 [] [textL 0, nonce, ad, text] = (T, N) ∧ N < T.length ∧ T.length ≤ 6 ∧
      openN T (textL 0) nonce ad (textL N) = some text ∧
      openN T (textL 1) nonce ad (textL N) = none ∧
      (∀ nonce' ad', Unlike nonce' → Unlike ad' → openN T (textL 0) nonce' ad' (textL N) = if nonce' = nonce ∧ ad' = ad then some text else none) := by
  have hT0 : NoMade twoT := by
    intro x hx
    simp [twoT] at hx
    rcases hx with rfl | rfl <;> exact .inl ⟨_, rfl⟩
  have e0 : partN twoT (textL 0) = (twoT, 0) := partN_text _ 0 (by simp [twoT]) (by simp [twoT])
  obtain ⟨x1, n1, e1, hT1, l1, b1, g1⟩ := partN_unlike twoT hT0 h1
  obtain ⟨x2, n2, e2, hT2, l2, b2, g2⟩ := partN_unlike _ hT1 h2
  obtain ⟨x3, n3, e3, hT3, l3, b3, g3⟩ := partN_unlike _ hT2 h3
  have hp : partsN twoT [] [textL 0, nonce, ad, text] = (twoT ++ x1 ++ x2 ++ x3, [0, n1, n2, n3]) := by
    simp only [partsN, e0, e1, e2, e3]
    rfl
  have hm : madeN (twoT ++ x1 ++ x2 ++ x3) 6 [] [0, n1, n2, n3] = .made 6 0 [] [0, n1, n2, n3] := rfl
  have hk : makeN twoT 6 [] [textL 0, nonce, ad, text] = (twoT ++ x1 ++ x2 ++ x3 ++ [.made 6 0 [] [0, n1, n2, n3]], (twoT ++ x1 ++ x2 ++ x3).length) := by
    unfold makeN
    rw [hp]
    show putN (twoT ++ x1 ++ x2 ++ x3) (madeN (twoT ++ x1 ++ x2 ++ x3) 6 [] [0, n1, n2, n3]) = _
    rw [hm, putN_new _ _ (findN_made hT3 _ _ _ _)]
  obtain ⟨T, hT⟩ : ∃ T, T = twoT ++ x1 ++ x2 ++ x3 ++ [.made 6 0 [] [0, n1, n2, n3]] := ⟨_, rfl⟩
  obtain ⟨N, hN⟩ : ∃ N, N = (twoT ++ x1 ++ x2 ++ x3).length := ⟨_, rfl⟩
  have hlen : T.length = N + 1 := by rw [hT, hN]; simp; omega
  have hN5 : N ≤ 5 := by rw [hN]; simp [twoT]; omega
  have c0 : T[0]? = some (.name 0) := by rw [hT]; simp [twoT]
  have c1' : T[1]? = some (.name 1) := by rw [hT]; simp [twoT]
  have b1' : n1 < N := by rw [hN]; simp at b1 ⊢; omega
  have b2' : n2 < N := by rw [hN]; simp at b2 ⊢; omega
  have b3' : n3 < N := by rw [hN]; simp at b3 ⊢; omega
  have gT : ∀ (n : Nat) (x : Node) (L R : List Node), L ++ R = T → L[n]? = some x → T[n]? = some x := by
    intro n x L R hLR hx
    rw [← hLR, List.getElem?_append_left (List.getElem?_eq_some_iff.1 hx).1, hx]
  have d1 : T[n1]? = some (.data nonce) := gT n1 _ _ (x2 ++ x3 ++ [.made 6 0 [] [0, n1, n2, n3]]) (by rw [hT]; simp) g1
  have d2 : T[n2]? = some (.data ad) := gT n2 _ _ (x3 ++ [.made 6 0 [] [0, n1, n2, n3]]) (by rw [hT]; simp) g2
  have d3 : T[n3]? = some (.data text) := gT n3 _ _ [.made 6 0 [] [0, n1, n2, n3]] (by rw [hT]) g3
  have dN : T[N]? = some (.made 6 0 [] [0, n1, n2, n3]) := by rw [hT, hN]; simp
  have nN := nodeOf_text T N (by omega) (by omega)
  have k0 := nodeOf_text T 0 (by omega) (by omega)
  have k1 := nodeOf_text T 1 (by rw [hlen, hN]; simp [twoT]) (by omega)
  have m1 := nodeOf_text T n1 (by omega) (by omega)
  have m2 := nodeOf_text T n2 (by omega) (by omega)
  have m3 := nodeOf_text T n3 (by omega) (by omega)
  rw [dN] at nN
  rw [c0] at k0
  rw [c1'] at k1
  rw [d1] at m1
  rw [d2] at m2
  rw [d3] at m3
  have o : ∀ key non a', openN T key non a' (textL N) = if isN T key 0 && isN T non n1 && isN T a' n2 then some text else none := by
    intro key non a'
    unfold openN
    rw [nN]
    simp [partT, m3]
  have i0 : isN T (textL 0) 0 = true := by unfold isN; rw [k0]; simp
  have i1 : isN T (textL 1) 0 = false := by
    unfold isN; rw [k1]
    simp only [beq_eq_false_iff_ne, ne_eq]
    intro h
    have := textL_inj (by omega) (by omega) h
    omega
  have i2 : ∀ s, Unlike s → isN T s n1 = (s == nonce) := by intro s hs; unfold isN; rw [nodeOf_unlike T hs, m1]
  have i3 : ∀ s, Unlike s → isN T s n2 = (s == ad) := by intro s hs; unfold isN; rw [nodeOf_unlike T hs, m2]
  refine ⟨T, N, by rw [hk, hT, hN], by omega, by omega, ?_, ?_, ?_⟩
  · rw [o, i0, i2 _ h1, i3 _ h2]; simp
  · rw [o, i1]; simp
  · intro n' a' hn ha
    rw [o, i0, i2 _ hn, i3 _ ha]
    by_cases e1 : n' = nonce <;> by_cases e2 : a' = ad <;> simp [e1, e2]
end Go.Proofs.YtipehnojibdfeaaGreat
