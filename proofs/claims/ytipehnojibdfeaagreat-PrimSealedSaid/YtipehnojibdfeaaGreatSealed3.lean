/- PrimSealed with terms. -/
import Derived.Test.YtipehnojibdfeaaGreatSealed2
import Derived.Deep.RegionLaw
namespace Go.Proofs.YtipehnojibdfeaaGreat
open Go Go.Proofs Go.RowKit

theorem unlike_of {s : List UInt8} (h : likeB s = false) : Unlike s := by
  unfold likeB at h
  exact of_decide_eq_false h
/-- what is sealed with the first of two secrets: the table behind it, and what is opened in it -/
theorem sealed_terms2 (nonce ad text : List UInt8) (h1 : Unlike nonce) (h2 : Unlike ad) (h3 : Unlike text) :
    ∃ T N n1 n2 n3, makeN twoT 6 [] [textL 0, nonce, ad, text] = (T, N) ∧ N < T.length ∧ T.length ≤ 6 ∧ T[0]? = some (.name 0) ∧ T[1]? = some (.name 1) ∧ T[N]? = some (.made 6 0 [] [0, n1, n2, n3]) ∧ T[n1]? = some (.data nonce) ∧ T[n2]? = some (.data ad) ∧ T[n3]? = some (.data text) := by
  have hT0 : NoMade twoT := by
    intro x hx
    simp [twoT] at hx
    rcases hx with rfl | rfl <;> exact .inl ⟨_, rfl⟩
  have e0 : partN twoT (textL 0) = (twoT, 0) := partN_text _ 0 (by simp [twoT]) (by simp [twoT])
  obtain ⟨x1, n1, e1, hT1, l1, b1, g1⟩ := partN_unlike twoT hT0 h1
  obtain ⟨x2, n2, e2, hT2, l2, b2, g2⟩ := partN_unlike _ hT1 h2
  obtain ⟨x3, n3, e3, hT3, l3, b3, g3⟩ := partN_unlike _ hT2 h3
  have hp : partsN twoT [] [textL 0, nonce, ad, text] = (twoT ++ x1 ++ x2 ++ x3, [0, n1, n2, n3]) := by
    simp only [partsN, e0, e1, e2, e3]
    rfl
  have hm : madeN (twoT ++ x1 ++ x2 ++ x3) 6 [] [0, n1, n2, n3] = .made 6 0 [] [0, n1, n2, n3] := rfl
  have hk : makeN twoT 6 [] [textL 0, nonce, ad, text] = (twoT ++ x1 ++ x2 ++ x3 ++ [.made 6 0 [] [0, n1, n2, n3]], (twoT ++ x1 ++ x2 ++ x3).length) := by
    unfold makeN
    rw [hp]
    show putN (twoT ++ x1 ++ x2 ++ x3) (madeN (twoT ++ x1 ++ x2 ++ x3) 6 [] [0, n1, n2, n3]) = _
    rw [hm, putN_new _ _ (findN_made hT3 _ _ _ _)]
  obtain ⟨T, hT⟩ : ∃ T, T = twoT ++ x1 ++ x2 ++ x3 ++ [.made 6 0 [] [0, n1, n2, n3]] := ⟨_, rfl⟩
  obtain ⟨N, hN⟩ : ∃ N, N = (twoT ++ x1 ++ x2 ++ x3).length := ⟨_, rfl⟩
  have hlen : T.length = N + 1 := by rw [hT, hN]; simp; omega
  have hN5 : N ≤ 5 := by rw [hN]; simp [twoT]; omega
  have c0 : T[0]? = some (.name 0) := by rw [hT]; simp [twoT]
  have c1' : T[1]? = some (.name 1) := by rw [hT]; simp [twoT]
  have b1' : n1 < N := by rw [hN]; simp at b1 ⊢; omega
  have b2' : n2 < N := by rw [hN]; simp at b2 ⊢; omega
  have b3' : n3 < N := by rw [hN]; simp at b3 ⊢; omega
  have gT : ∀ (n : Nat) (x : Node) (L R : List Node), L ++ R = T → L[n]? = some x → T[n]? = some x := by
    intro n x L R hLR hx
    rw [← hLR, List.getElem?_append_left (List.getElem?_eq_some_iff.1 hx).1, hx]
  have d1 : T[n1]? = some (.data nonce) := gT n1 _ _ (x2 ++ x3 ++ [.made 6 0 [] [0, n1, n2, n3]]) (by rw [hT]; simp) g1
  have d2 : T[n2]? = some (.data ad) := gT n2 _ _ (x3 ++ [.made 6 0 [] [0, n1, n2, n3]]) (by rw [hT]; simp) g2
  have d3 : T[n3]? = some (.data text) := gT n3 _ _ [.made 6 0 [] [0, n1, n2, n3]] (by rw [hT]) g3
  have dN : T[N]? = some (.made 6 0 [] [0, n1, n2, n3]) := by rw [hT, hN]; simp
  exact ⟨T, N, n1, n2, n3, by rw [hk, hT, hN], by omega, by omega, c0, c1', dN, d1, d2, d3⟩

set_option maxRecDepth 100000 in
set_option maxHeartbeats 8000000 in
theorem sealedTerms_any (w : World) (K : Array Value) (A B : List UInt8) (nonce ad text : ByteArray) (at_ by_ : Nat) (other : Bool) (on oa : ByteArray) (hK : KeysAre K true A B nonce ad text at_ by_ other on oa) (hon : on.size ≤ 9223372036854775807) (hoa : oa.size ≤ 9223372036854775807) :
    Calls Tryz.prog 3 #[.agg K] w fun e w' => e = .returned (.bool true) ∧ Below w.heap.size w w' := by
  obtain ⟨w1, hw1⟩ : ∃ w1, w1 = w.alloc (.cells K 24) := ⟨_, rfl⟩
  have hB1 : Blk w1 w.heap.size 24 K := by rw [hw1]; exact Blk.new _ _ _
  have b1 : Below w.heap.size w w1 := by rw [hw1]; exact (Below.refl _ _).alloc (Nat.le_refl _) _
  have hin : (Tryz.prog.info? 24).map (·.size) = some K.size := by rw [hK.size]; exact keysInfo
  have HIN : Hid ((Tryz.prog.info? 24).map (·.size) = some K.size) := hin
  have ck := kitTerm_any w1 K hK.c0
  have HW1 : Hid (w1 = w.alloc (.cells K 24)) := hw1
  have hB0 : Blk (w.alloc (.cells K 24)) w.heap.size 24 K := Blk.new _ _ _
  have HLT : Hid (w.heap.size < w1.heap.size) := hB1.lt
  clear hw1 hin
  go_enter Tryz.func3, Tryz.ntmps3
  go_wp2_with (with_reducible refine wpList_load_blk (o := ⟨some 21, .load _ _, _, _, _, _⟩) rfl 24 (.tmp 1) rfl w.heap.size rfl 24 K _ hB0 Tryz.underlying24 rfl HIN.out ?_)
  rw [← HW1.out]
  refine ck.mono ?_
  rintro e w2 ⟨⟨base, p, rfl, hwb, hP2⟩, b2⟩
  clear ck HW1 hB0
  have cw := works10_any w2
  go_wp2_with fail
  refine cw.mono ?_
  rintro e w3 ⟨rfl, b3⟩
  clear cw
  have hB3 := (hB1.later b2).later b3
  have hP3 := hP2.later b3
  obtain ⟨od, hod⟩ : ∃ od, od = (true && (likeB nonce.data.toList || likeB ad.data.toList || likeB text.data.toList || likeB on.data.toList || likeB oa.data.toList)) := ⟨_, rfl⟩
  have b13 := Below.step (Below.step b1 b2) b3
  have HB13 : Hid (w1.heap.size ≤ w3.heap.size) := Nat.le_trans b2.size b3.size
  have co := odd_any w3 K true nonce ad text on oa hK.c0 hK.c3 hK.c4 hK.c5 hK.c9 hK.c10 _ rfl
  rw [← hod] at co
  have HOD : Hid (od = (true && (likeB nonce.data.toList || likeB ad.data.toList || likeB text.data.toList || likeB on.data.toList || likeB oa.data.toList))) := hod
  have HWB : Hid (w1.heap.size ≤ base) := hwb
  clear hB1 b2 b3 hP2 hod
  cases od with
  | true =>
    go_wp2_with (with_reducible refine wpList_load_blk (o := ⟨some 29, .load _ _, _, _, _, _⟩) rfl 24 (.tmp 1) rfl w.heap.size rfl 24 K _ hB3 Tryz.underlying24 rfl HIN.out ?_)
    refine co.mono ?_
    rintro e w4 ⟨rfl, b4⟩
    go_wp2
    go_ret
    exact ⟨rfl, Below.step b13 b4⟩
  | false =>
    go_wp2_with (with_reducible refine wpList_load_blk (o := ⟨some 29, .load _ _, _, _, _, _⟩) rfl 24 (.tmp 1) rfl w.heap.size rfl 24 K _ hB3 Tryz.underlying24 rfl HIN.out ?_)
    refine co.mono ?_
    rintro e w4 ⟨rfl, b4⟩
    clear co HIN
    have hB4 := hB3.later b4
    have hP4 := hP3.later b4
    have b14 := Below.step b13 b4
    have HB14 : Hid (w1.heap.size ≤ w4.heap.size) := Nat.le_trans HB13.out b4.size
    clear hB3 hP3 b13 b4 b1
    obtain ⟨sA, hsA⟩ : ∃ s, s = bs A := ⟨_, rfl⟩
    obtain ⟨sB, hsB⟩ : ∃ s, s = bs B := ⟨_, rfl⟩
    have hnot := HOD.out
    have u3 : Unlike nonce.data.toList := unlike_of (by simp at hnot; simp [hnot])
    have u4 : Unlike ad.data.toList := unlike_of (by simp at hnot; simp [hnot])
    have u5 : Unlike text.data.toList := unlike_of (by simp at hnot; simp [hnot])
    have u9 : Unlike on.data.toList := unlike_of (by simp at hnot; simp [hnot])
    have u10 : Unlike oa.data.toList := unlike_of (by simp at hnot; simp [hnot])
    have kA : (convert 30 9 (.slice (some ⟨w.heap.size, 1, none⟩) 32 32)).run Tryz.prog w4.drew = .ok (.string sA) w4.drew := by rw [hsA]; exact conv32 hB4.drew hK.lA hK.cA
    have kB : (convert 30 9 (.slice (some ⟨w.heap.size, 33, none⟩) 32 32)).run Tryz.prog w4.drew = .ok (.string sB) w4.drew := by rw [hsB]; exact conv32 hB4.drew hK.lB hK.cB
    have kB2 : ∀ W, Blk W w.heap.size 24 K → (convert 30 9 (.slice (some ⟨w.heap.size, 33, none⟩) 32 32)).run Tryz.prog W = .ok (.string sB) W := fun W h => by rw [hsB]; exact conv32 h hK.lB hK.cB
    have hblt : w.heap.size < base := by have := HLT.out; have := HWB.out; omega
    obtain ⟨s0, hs0⟩ : ∃ s, s = bs (textL 0) := ⟨_, rfl⟩
    obtain ⟨s1, hs1⟩ : ∃ s, s = bs (textL 1) := ⟨_, rfl⟩
    have c1 := secretT_any w4.drew base p 0 [] 0 hP4 (by simp) (by omega) sA
    rw [e1, ← hs0] at c1
    have c2 : ∀ W, TermPrim W base p 0 wT1 1 → Calls Tryz.prog 9 #[.pointer (some ⟨p, 0, none⟩), .string sB] W fun e w' => e = .returned (.string s1) ∧ TermPrim w' base p 0 twoT 2 ∧ Below base W w' := fun W h => by
      have c := secretT_any W base p 0 wT1 1 h (by simp [wT1]) (by omega) sB
      rw [e2, ← hs1] at c; exact c
    have HS0 : Hid (s0 = bs (textL 0)) := hs0
    have HS1 : Hid (s1 = bs (textL 1)) := hs1
    clear hsA hsB hs0 hs1 hnot
    go_wp2_with fail
    go_region_law (first
      | (go_simp; go_at_call 9; refine c1.mono ?_; rintro e wa ⟨rfl, hPa, ba⟩; have hBa := hB4.drew.below ba hblt; have kBa := kB2 wa hBa; clear c1)
      | (go_simp; go_at_call 9; refine (c2 _ hPa).mono ?_; rintro e w5 ⟨rfl, hP5, b5⟩))
    all_goals (
      have hB5 := hBa.below b5 hblt
      have b14d : Below w.heap.size w w4.drew := ⟨b14.os, b14.tape, b14.output, b14.size, b14.block⟩
      have b15 := (b14d.trans (ba.mono (Nat.le_of_lt hblt))).trans (b5.mono (Nat.le_of_lt hblt))
      clear kA kB kB2 kBa c2 hB4 hP4 b14 b14d hBa ba b5 hPa
      have C0 : w5.cell? ⟨w.heap.size, 0, none⟩ = some (.bool true) := (hB5.cell 0).trans hK.c0
      have C3 : w5.cell? ⟨w.heap.size, 65, none⟩ = some (.string nonce) := (hB5.cell 65).trans hK.c3
      have C4 : w5.cell? ⟨w.heap.size, 66, none⟩ = some (.string ad) := (hB5.cell 66).trans hK.c4
      have C5 : w5.cell? ⟨w.heap.size, 67, none⟩ = some (.string text) := (hB5.cell 67).trans hK.c5
      by_cases hl : nonce.size ≤ 16384 ∧ ad.size ≤ 16384 ∧ text.size ≤ 16384
      · obtain ⟨l3, l4, l5⟩ := hl
        have d3 : decide (16384 < (nonce.size : Int)) = false := by simp; omega
        have d4 : decide (16384 < (ad.size : Int)) = false := by simp; omega
        have d5 : decide (16384 < (text.size : Int)) = false := by simp; omega
        obtain ⟨T, N, n1, n2, n3, hmk, hNT, hT6, t0, t1, tN, tn1, tn2, tn3⟩ := sealed_terms2 nonce.data.toList ad.data.toList text.data.toList u3 u4 u5
        have hsp := sealT_any w5 base p 0 twoT 2 hP5 (by simp [twoT]) (by omega) (textL 0) nonce.data.toList ad.data.toList text.data.toList (by rw [textL_length]; omega) l3 l4 l5
        rw [hmk, bs_of, bs_of, bs_of, ← HS0.out] at hsp
        obtain ⟨sN, hsN⟩ : ∃ s, s = bs (textL N) := ⟨_, rfl⟩
        simp only at hsp
        rw [← hsN] at hsp
        have HSN : Hid (sN = bs (textL N)) := hsN
        clear hsN hmk
        have nN := numOf_text T.length N hNT (by omega)
        have n0 := numOf_text T.length 0 (by omega) (by omega)
        have nn1 := numOf_text T.length 1 (by have := (List.getElem?_eq_some_iff.1 t1).1; omega) (by omega)
        have o : ∀ W m (key non a : List UInt8) (km j : Nat) (b : Bool), TermPrim W base p m T 2 → m ≤ 100 → key.length = 8 → non.length ≤ 9223372036854775807 → a.length ≤ 9223372036854775807 → numOf T.length key = some km → T[km]? = some (.name j) → Unlike non → Unlike a → b = (decide (key = textL 0) && decide (non = nonce.data.toList) && decide (a = ad.data.toList)) →
            Calls Tryz.prog 11 #[.pointer (some ⟨p, 0, none⟩), .string (bs key), .string (bs non), .string (bs a), .string sN] W fun e w' => e = .returned (openR b text.data.toList) ∧ TermPrim w' base p (if b then m + 1 else m) T 2 ∧ Below base W w' := fun W m key non a km j b hp hm h8 hnl hal hk1 hk2 hu1 hu2 hb => by
          rw [HSN.out]
          exact openT_any W base p m T 2 hp (by omega) (by omega) key non a (textL N) (by omega) hnl hal (by rw [textL_length]; omega) N 0 0 n1 n2 n3 km j [] nonce.data.toList ad.data.toList text.data.toList nN tN (by omega) hk1 hk2 (numOf_unlike hu1) tn1 (numOf_unlike hu2) tn2 tn3 b hb
        go_wp2_with fail
        refine hsp.mono ?_
        rintro e w6 ⟨rfl, hP6, c6⟩
        clear hsp C0 C3 C4 C5
        have hB6 := hB5.below c6 hblt
        have b16 : Below w.heap.size w w6 := b15.trans (c6.mono (Nat.le_of_lt hblt))
        have C3 : w6.cell? ⟨w.heap.size, 65, none⟩ = some (.string nonce) := (hB6.cell 65).trans hK.c3
        have C4 : w6.cell? ⟨w.heap.size, 66, none⟩ = some (.string ad) := (hB6.cell 66).trans hK.c4
        have C5 : w6.cell? ⟨w.heap.size, 67, none⟩ = some (.string text) := (hB6.cell 67).trans hK.c5
        have ho := o w6 1 (textL 0) nonce.data.toList ad.data.toList 0 0 true hP6 (by omega) (textL_length 0) (show nonce.size ≤ _ by omega) (show ad.size ≤ _ by omega) n0 t0 u3 u4 (by simp)
        rw [bs_of, bs_of, ← HS0.out] at ho
        unfold openR at ho
        simp only [if_true] at ho
        rw [bs_of] at ho
        clear b15 hB5 hP5 hP6
        go_wp2_with fail
        refine ho.mono ?_
        rintro e w7 ⟨rfl, hP7, c7⟩
        clear ho C3 C4 C5
        have hB7 := hB6.below c7 hblt
        have b17 : Below w.heap.size w w7 := b16.trans (c7.mono (Nat.le_of_lt hblt))
        have C0 : w7.cell? ⟨w.heap.size, 0, none⟩ = some (.bool true) := (hB7.cell 0).trans hK.c0
        have C3 : w7.cell? ⟨w.heap.size, 65, none⟩ = some (.string nonce) := (hB7.cell 65).trans hK.c3
        have C4 : w7.cell? ⟨w.heap.size, 66, none⟩ = some (.string ad) := (hB7.cell 66).trans hK.c4
        have C5 : w7.cell? ⟨w.heap.size, 67, none⟩ = some (.string text) := (hB7.cell 67).trans hK.c5
        clear b16 hB6
        go_wp2_with fail
        go_quiet (fail)
        obtain ⟨w8, hw8⟩ : ∃ w8, w8 = w7.drewN nq := ⟨_, rfl⟩
        rw [← hw8]
        have hB8 : Blk w8 w.heap.size 24 K := by rw [hw8]; exact hB7.drewN nq
        have hP8 : TermPrim w8 base p 2 T 2 := by rw [hw8]; exact hP7
        have b18 : Below w.heap.size w w8 := by rw [hw8]; exact below_drewN' b17 nq
        clear hw8 hB7 hP7 b17 C0 C3 C4 C5
        have C3 : w8.cell? ⟨w.heap.size, 65, none⟩ = some (.string nonce) := (hB8.cell 65).trans hK.c3
        have C4 : w8.cell? ⟨w.heap.size, 66, none⟩ = some (.string ad) := (hB8.cell 66).trans hK.c4
        have C8 : w8.cell? ⟨w.heap.size, 70, none⟩ = some (.bool other) := (hB8.cell 70).trans hK.c8
        have C9 : w8.cell? ⟨w.heap.size, 71, none⟩ = some (.string on) := (hB8.cell 71).trans hK.c9
        have C10 : w8.cell? ⟨w.heap.size, 72, none⟩ = some (.string oa) := (hB8.cell 72).trans hK.c10
        have hnil : (⟨#[]⟩ : ByteArray).toList.isEmpty = true := by rw [Lib.toList_data]; rfl
        cases other with
        | true =>
          have hne : (s1.toList == s0.toList) = false := by rw [HS0.out, HS1.out, bs_beq]; decide
          have ho := o w8 2 (textL 1) nonce.data.toList ad.data.toList 1 1 false hP8 (by omega) (textL_length 1) (show nonce.size ≤ _ by omega) (show ad.size ≤ _ by omega) nn1 t1 u3 u4 (by rw [show decide (textL 1 = textL 0) = false by decide]; rfl)
          rw [bs_of, bs_of, ← HS1.out] at ho
          unfold openR at ho
          simp only [Bool.false_eq_true, if_false] at ho
          rw [show bs [] = (⟨#[]⟩ : ByteArray) from rfl] at ho
          go_wp2_with fail
          refine ho.mono ?_
          rintro e w9 ⟨rfl, hP9, c9⟩
          clear ho C3 C4 C8 C9 C10
          go_wp2
          go_ret
          exact ⟨rfl, b18.trans (c9.mono (Nat.le_of_lt hblt))⟩
        | false =>
          have heq : (s0.toList == s0.toList) = true := by simp
          obtain ⟨x3, hx3⟩ : ∃ x, x = decide (on.data.toList = nonce.data.toList) := ⟨_, rfl⟩
          obtain ⟨x4, hx4⟩ : ∃ x, x = decide (oa.data.toList = ad.data.toList) := ⟨_, rfl⟩
          have e3 : (on.toList == nonce.toList) = x3 := by rw [hx3]; exact bs_beq on.data.toList nonce.data.toList
          have e4 : (oa.toList == ad.toList) = x4 := by rw [hx4]; exact bs_beq oa.data.toList ad.data.toList
          have ho := o w8 2 (textL 0) on.data.toList oa.data.toList 0 0 (x3 && x4) hP8 (by omega) (textL_length 0) hon hoa n0 t0 u9 u10 (by rw [hx3, hx4]; simp)
          rw [bs_of, bs_of, ← HS0.out] at ho
          have hte : (text.toList == text.toList) = true := by simp
          clear hx3 hx4
          cases x3 with
          | false =>
            simp only [Bool.false_and, openR, Bool.false_eq_true, if_false] at ho
            rw [show bs [] = (⟨#[]⟩ : ByteArray) from rfl] at ho
            go_wp2_with fail
            refine ho.mono ?_
            rintro e w9 ⟨rfl, hP9, c9⟩
            clear ho C4 C8 C9 C10
            have C3 : w9.cell? ⟨w.heap.size, 65, none⟩ = some (.string nonce) := ((hB8.below c9 hblt).cell 65).trans hK.c3
            go_wp2
            go_ret
            exact ⟨rfl, b18.trans (c9.mono (Nat.le_of_lt hblt))⟩
          | true =>
            cases x4 with
            | false =>
              simp only [Bool.and_false, openR, Bool.false_eq_true, if_false] at ho
              rw [show bs [] = (⟨#[]⟩ : ByteArray) from rfl] at ho
              go_wp2_with fail
              refine ho.mono ?_
              rintro e w9 ⟨rfl, hP9, c9⟩
              clear ho C8 C9 C10
              have C3 : w9.cell? ⟨w.heap.size, 65, none⟩ = some (.string nonce) := ((hB8.below c9 hblt).cell 65).trans hK.c3
              have C4 : w9.cell? ⟨w.heap.size, 66, none⟩ = some (.string ad) := ((hB8.below c9 hblt).cell 66).trans hK.c4
              go_wp2
              go_ret
              exact ⟨rfl, b18.trans (c9.mono (Nat.le_of_lt hblt))⟩
            | true =>
              simp only [Bool.and_self, openR, if_true] at ho
              rw [bs_of] at ho
              go_wp2_with fail
              refine ho.mono ?_
              rintro e w9 ⟨rfl, hP9, c9⟩
              clear ho C8 C9 C10
              have C3 : w9.cell? ⟨w.heap.size, 65, none⟩ = some (.string nonce) := ((hB8.below c9 hblt).cell 65).trans hK.c3
              have C4 : w9.cell? ⟨w.heap.size, 66, none⟩ = some (.string ad) := ((hB8.below c9 hblt).cell 66).trans hK.c4
              have C5 : w9.cell? ⟨w.heap.size, 67, none⟩ = some (.string text) := ((hB8.below c9 hblt).cell 67).trans hK.c5
              go_wp2
              go_ret
              exact ⟨rfl, b18.trans (c9.mono (Nat.le_of_lt hblt))⟩
      · have hnn : Calls Tryz.prog 27 #[.pointer (some ⟨p, 0, none⟩)] w5 fun e w' => e = .returned (.bool false) ∧ w' = w5 := by
          exact noneT_any w5 base p 0 twoT 2 hP5
        have hsl := seal_long w5 p s0 nonce ad text (by simp [longL]; omega) hnn
        have hnil : (⟨#[]⟩ : ByteArray).toList.isEmpty = true := by rw [Lib.toList_data]; rfl
        by_cases h3 : 16384 < nonce.size
        · have d3 : decide (16384 < (nonce.size : Int)) = true := by simp; omega
          clear hl
          go_wp2_with fail
          refine hsl.mono ?_
          rintro e w6 ⟨rfl, b6⟩
          clear hsl hnn
          have hB6 := hB5.later b6
          have C3 : w6.cell? ⟨w.heap.size, 65, none⟩ = some (.string nonce) := (hB6.cell 65).trans hK.c3
          go_wp2
          go_ret
          exact ⟨rfl, Below.step b15 b6⟩
        · have d3 : decide (16384 < (nonce.size : Int)) = false := by simp; omega
          by_cases h4 : 16384 < ad.size
          · have d4 : decide (16384 < (ad.size : Int)) = true := by simp; omega
            clear hl
            go_wp2_with fail
            refine hsl.mono ?_
            rintro e w6 ⟨rfl, b6⟩
            clear hsl hnn
            have hB6 := hB5.later b6
            have C3 : w6.cell? ⟨w.heap.size, 65, none⟩ = some (.string nonce) := (hB6.cell 65).trans hK.c3
            have C4 : w6.cell? ⟨w.heap.size, 66, none⟩ = some (.string ad) := (hB6.cell 66).trans hK.c4
            go_wp2
            go_ret
            exact ⟨rfl, Below.step b15 b6⟩
          · have d4 : decide (16384 < (ad.size : Int)) = false := by simp; omega
            have d5 : decide (16384 < (text.size : Int)) = true := by simp; omega
            clear hl
            go_wp2_with fail
            refine hsl.mono ?_
            rintro e w6 ⟨rfl, b6⟩
            clear hsl hnn
            have hB6 := hB5.later b6
            have C3 : w6.cell? ⟨w.heap.size, 65, none⟩ = some (.string nonce) := (hB6.cell 65).trans hK.c3
            have C4 : w6.cell? ⟨w.heap.size, 66, none⟩ = some (.string ad) := (hB6.cell 66).trans hK.c4
            have C5 : w6.cell? ⟨w.heap.size, 67, none⟩ = some (.string text) := (hB6.cell 67).trans hK.c5
            go_wp2
            go_ret
            exact ⟨rfl, Below.step b15 b6⟩)
end Go.Proofs.YtipehnojibdfeaaGreat
