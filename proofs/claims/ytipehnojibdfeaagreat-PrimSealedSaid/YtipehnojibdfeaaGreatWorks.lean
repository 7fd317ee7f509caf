/- prim's Journal; layer 10's works: the chapter's rows, played with terms; kit, like, odd. -/
import Derived.Test.YtipehnojibdfeaaGreatPrim12
import Derived.Test.YtipehnojibdfeaaGreatPrim9
namespace Go.Proofs.YtipehnojibdfeaaGreat
open Go Go.Proofs Go.RowKit

theorem ownsRow_row {w : World} {base : Nat} {e : TypeId} {size n : Nat} {v : Value} {xs : List Value} (h : w.ownsRow base e size v n xs) (hn : 0 < n) : ∃ g c, v = .slice (some ⟨g, 0, none⟩) n c := by
  rcases h.2 with ⟨_, hz⟩ | ⟨g, cap, cur, e1, _⟩
  · omega
  · exact ⟨g, cap, e1⟩
theorem sliceNil (W : World) (a : Addr) (n c : Nat) : (binOp BinOp.eql 49 (.slice (some a) n c) (.slice none 0 0)).run Tryz.prog W = .ok (.bool false) W := by kernel_rfl
set_option maxRecDepth 100000 in
set_option maxHeartbeats 2000000 in
theorem cloneDeeds_any (w : World) (base : Nat) (j : Value) (n : Nat) (xs : List Value) (hJ : w.ownsRow base 60 6 j n xs) (h1c : ∀ u ∈ xs, u.oneCell' = true) (hn : 0 < n) (hn2 : n ≤ 1000000) :
    Calls Tryz.prog 36 #[j] w fun e w' => (∃ A c, e = .returned (.slice A n c)) ∧ Below w.heap.size w w' := by
  obtain ⟨g, c, rfl⟩ := ownsRow_row hJ hn
  obtain ⟨iD, zD, hi, hz, hs, hby, hzs⟩ := deedInfo
  have hxl : xs.length = n * 6 := hJ.1
  have hcells := (hJ.alloc (.cells #[] 60)).cells (g := g) rfl
  have hown := World.ownsRow_made (size := 6) (e := 60) (base := w.heap.size) w #[] 0 (Nat.le_refl _) (by unfold maxLen; omega) rfl
  have hsn := fun W => sliceNil W ⟨g, 0, none⟩ n c
  clear hJ
  go_enter Tryz.func36, Tryz.ntmps36
  go_wp2_with (at_builtin; refine wpList_append_own _ rfl _ _ 49 rfl w.heap.size 60 iD zD 6 88 Tryz.underlying49 hi hz hs hby hzs (by decide) _ 0 [] rfl hown ⟨g, 0, none⟩ n c xs rfl hxl hcells h1c (by unfold maxLen; omega) (by omega) (by simp) ?_; intro v' w' hown' hgrow hnil)
  go_ret
  obtain ⟨A', c', hv'⟩ := ownsRow_slice hown'
  rw [Nat.zero_add] at hv'
  exact ⟨⟨A', c', by rw [← hv']; rfl⟩, ((Below.refl _ _).alloc (Nat.le_refl _) _).grown hgrow (by simp) (fun k hk => hown.ownBlock_ge hk)⟩
theorem journalT_any (w : World) (base p n : Nat) (T : List Node) (k : Nat) (hp : TermPrim w base p n T k) (hn : 0 < n) (hn2 : n ≤ 1000000) :
    Calls Tryz.prog 25 #[.pointer (some ⟨p, 0, none⟩)] w fun e w' => (∃ A c, e = .returned (.slice A n c)) ∧ Below w.heap.size w w' := by
  have h := noneT_any w base p n T k hp
  obtain ⟨t, M, _, _, _, ⟨j, xs, hB, hJ, hne, h1x⟩, _⟩ := hp
  have hcl := cloneDeeds_any w base j n xs hJ h1x hn hn2
  have hc' : w.cell? ⟨p, 3, none⟩ = some j := hB.cell 3
  clear hB hJ h1x
  go_enter Tryz.func25, Tryz.ntmps25
  go_wp2_with fail
  refine h.mono ?_
  rintro e w' ⟨rfl, hw⟩
  rw [hw]
  clear hw w' h
  go_wp2_with fail
  refine hcl.mono ?_
  rintro e w2 ⟨⟨A, c, rfl⟩, b2⟩
  clear hcl
  go_wp2
  go_ret
  exact ⟨⟨A, c, rfl⟩, b2⟩

def wT1 : List Node := [.name 0]
def wT3 : List Node := [.name 0, .name 1, .made 3 0 [] [0]]
def wT4 : List Node := [.name 0, .name 1, .made 3 0 [] [0], .made 3 0 [] [1]]
def wT5 : List Node := [.name 0, .name 1, .made 3 0 [] [0], .made 3 0 [] [1], .made 4 0 [] [0, 1]]
def wT9 : List Node := [.name 0, .name 1, .made 3 0 [] [0], .made 3 0 [] [1], .made 4 0 [] [0, 1], .data [110], .data [], .data [120], .made 6 0 [] [0, 5, 6, 7]]
theorem e1 : putN [] (.name 0) = (wT1, 0) := by kernel_rfl
theorem e2 : putN wT1 (.name 1) = (twoT, 1) := by kernel_rfl
theorem e3 : makeN twoT 3 [] [textL 0] = (wT3, 2) := by kernel_rfl
theorem e4 : makeN wT3 3 [] [textL 1] = (wT4, 3) := by kernel_rfl
theorem e5 : makeN wT4 4 [] [textL 0, textL 3] = (wT5, 4) := by kernel_rfl
theorem e6 : makeN wT5 4 [] [textL 1, textL 2] = (wT5, 4) := by kernel_rfl
theorem e7 : makeN wT5 6 [] [textL 0, [110], [], [120]] = (wT9, 8) := by kernel_rfl
theorem e8 : numOf wT9.length (textL 8) = some 8 := by kernel_rfl
theorem e9 : numOf wT9.length (textL 0) = some 0 := by kernel_rfl
theorem e10 : numOf wT9.length (textL 1) = some 1 := by kernel_rfl
theorem e11 : (decide (textL 0 = textL 0) && decide (([110] : List UInt8) = [110]) && decide (([] : List UInt8) = [])) = true := by decide
theorem e12 : (decide (textL 1 = textL 0) && decide (([110] : List UInt8) = [110]) && decide (([] : List UInt8) = [])) = false := by decide

set_option maxRecDepth 100000 in
set_option maxHeartbeats 8000000 in
theorem works10_any (w : World) : Calls Tryz.prog 7 #[] w fun e w' => e = .returned (.bool true) ∧ Below w.heap.size w w' := by
  obtain ⟨sa, hsa⟩ : ∃ sa, sa = bs (textL 0) := ⟨_, rfl⟩
  obtain ⟨sb, hsb⟩ : ∃ sb, sb = bs (textL 1) := ⟨_, rfl⟩
  obtain ⟨sx, hsx⟩ : ∃ sx, sx = bs (textL 2) := ⟨_, rfl⟩
  obtain ⟨sy, hsy⟩ : ∃ sy, sy = bs (textL 3) := ⟨_, rfl⟩
  obtain ⟨sk, hsk⟩ : ∃ sk, sk = bs (textL 4) := ⟨_, rfl⟩
  obtain ⟨se, hse⟩ : ∃ se, se = bs (textL 8) := ⟨_, rfl⟩
  have k1 : (sa.toList == sb.toList) = false := by rw [hsa, hsb, bs_beq]; decide
  have k2 : sk.toList.isEmpty = false := by rw [hsk, Lib.toList_data, bs_list]; decide
  have k3 : (sk.toList == sk.toList) = true := by simp
  have k4 : ((bs [120]).toList == [120]) = true := by rw [Lib.toList_data, bs_list]; decide
  have c1 := newTerm_any w
  have c2 : ∀ W p n, TermPrim W w.heap.size p n [] 0 → Calls Tryz.prog 9 #[.pointer (some ⟨p, 0, none⟩), .string ⟨#[]⟩] W fun e w' => e = .returned (.string sa) ∧ TermPrim w' w.heap.size p n wT1 1 ∧ Below w.heap.size W w' := fun W p n h => by
    have c := secretT_any W w.heap.size p n [] 0 h (by simp) (by omega) ⟨#[]⟩
    rw [e1] at c; rw [hsa]; exact c
  have c3 : ∀ W p n, TermPrim W w.heap.size p n wT1 1 → Calls Tryz.prog 9 #[.pointer (some ⟨p, 0, none⟩), .string ⟨#[]⟩] W fun e w' => e = .returned (.string sb) ∧ TermPrim w' w.heap.size p n twoT 2 ∧ Below w.heap.size W w' := fun W p n h => by
    have c := secretT_any W w.heap.size p n wT1 1 h (by simp [wT1]) (by omega) ⟨#[]⟩
    rw [e2] at c; rw [hsb]; exact c
  have c4 : ∀ W p n, TermPrim W w.heap.size p n twoT 2 → Calls Tryz.prog 23 #[.pointer (some ⟨p, 0, none⟩), .string sa] W fun e w' => e = .returned (.tuple #[.string sx, .int .i64 0]) ∧ TermPrim w' w.heap.size p n wT3 2 ∧ Below w.heap.size W w' := fun W p n h => by
    have c := publicT_any W w.heap.size p n twoT 2 h (by simp [twoT]) (textL 0) (by rw [textL_length]; omega)
    rw [e3] at c; rw [hsa, hsx]; exact c
  have c5 : ∀ W p n, TermPrim W w.heap.size p n wT3 2 → Calls Tryz.prog 23 #[.pointer (some ⟨p, 0, none⟩), .string sb] W fun e w' => e = .returned (.tuple #[.string sy, .int .i64 0]) ∧ TermPrim w' w.heap.size p n wT4 2 ∧ Below w.heap.size W w' := fun W p n h => by
    have c := publicT_any W w.heap.size p n wT3 2 h (by simp [wT3]) (textL 1) (by rw [textL_length]; omega)
    rw [e4] at c; rw [hsb, hsy]; exact c
  have c6 : ∀ W p n, TermPrim W w.heap.size p n wT4 2 → Calls Tryz.prog 24 #[.pointer (some ⟨p, 0, none⟩), .string sa, .string sy] W fun e w' => e = .returned (.tuple #[.string sk, .int .i64 0]) ∧ TermPrim w' w.heap.size p n wT5 2 ∧ Below w.heap.size W w' := fun W p n h => by
    have c := dhT_any W w.heap.size p n wT4 2 h (by simp [wT4]) (textL 0) (textL 3) (by rw [textL_length]; omega) (by rw [textL_length]; omega) ⟨0, 3, 1, 0, [], by kernel_rfl, by kernel_rfl, by omega⟩
    rw [e5] at c; rw [hsa, hsy, hsk]; exact c
  have c7 : ∀ W p n, TermPrim W w.heap.size p n wT5 2 → Calls Tryz.prog 24 #[.pointer (some ⟨p, 0, none⟩), .string sb, .string sx] W fun e w' => e = .returned (.tuple #[.string sk, .int .i64 0]) ∧ TermPrim w' w.heap.size p n wT5 2 ∧ Below w.heap.size W w' := fun W p n h => by
    have c := dhT_any W w.heap.size p n wT5 2 h (by simp [wT5]) (textL 1) (textL 2) (by rw [textL_length]; omega) (by rw [textL_length]; omega) ⟨1, 2, 0, 0, [], by kernel_rfl, by kernel_rfl, by omega⟩
    rw [e6] at c; rw [hsb, hsx, hsk]; exact c
  have c8 : ∀ W p, TermPrim W w.heap.size p 0 wT5 2 → Calls Tryz.prog 10 #[.pointer (some ⟨p, 0, none⟩), .string sa, .string ⟨#[110]⟩, .string ⟨#[]⟩, .string ⟨#[120]⟩] W fun e w' => e = .returned (.tuple #[.string se, .int .i64 0]) ∧ TermPrim w' w.heap.size p 1 wT9 2 ∧ Below w.heap.size W w' := fun W p h => by
    have c := sealT_any W w.heap.size p 0 wT5 2 h (by simp [wT5]) (by omega) (textL 0) [110] [] [120] (by rw [textL_length]; omega) (by simp) (by simp) (by simp)
    rw [e7] at c; rw [hsa, hse]; exact c
  have c9 : ∀ W p, TermPrim W w.heap.size p 1 wT9 2 → Calls Tryz.prog 11 #[.pointer (some ⟨p, 0, none⟩), .string sa, .string ⟨#[110]⟩, .string ⟨#[]⟩, .string se] W fun e w' => e = .returned (.tuple #[.string (bs [120]), .int .i64 0]) ∧ TermPrim w' w.heap.size p 2 wT9 2 ∧ Below w.heap.size W w' := fun W p h => by
    have c := openT_any W w.heap.size p 1 wT9 2 h (by simp [wT9]) (by omega) (textL 0) [110] [] (textL 8) (by rw [textL_length]; omega) (by simp) (by simp) (by rw [textL_length]; omega) 8 0 0 5 6 7 0 0 [] [110] [] [120] e8 rfl (by omega) e9 rfl (by kernel_rfl) rfl (by kernel_rfl) rfl rfl true e11.symm
    rw [hsa, hse]; exact c
  have c10 : ∀ W p, TermPrim W w.heap.size p 2 wT9 2 → Calls Tryz.prog 11 #[.pointer (some ⟨p, 0, none⟩), .string sb, .string ⟨#[110]⟩, .string ⟨#[]⟩, .string se] W fun e w' => e = .returned (.tuple #[.string (bs []), .int .i64 10]) ∧ TermPrim w' w.heap.size p 2 wT9 2 ∧ Below w.heap.size W w' := fun W p h => by
    have c := openT_any W w.heap.size p 2 wT9 2 h (by simp [wT9]) (by omega) (textL 1) [110] [] (textL 8) (by rw [textL_length]; omega) (by simp) (by simp) (by rw [textL_length]; omega) 8 0 0 5 6 7 1 1 [] [110] [] [120] e8 rfl (by omega) e10 rfl (by kernel_rfl) rfl (by kernel_rfl) rfl rfl false e12.symm
    rw [hsb, hse]; exact c
  have c11 : ∀ W p, TermPrim W w.heap.size p 2 wT9 2 → Calls Tryz.prog 25 #[.pointer (some ⟨p, 0, none⟩)] W fun e w' => (∃ A c, e = .returned (.slice A 2 c)) ∧ Below W.heap.size W w' := fun W p h => journalT_any W w.heap.size p 2 wT9 2 h (by omega) (by omega)
  have ck := fun W p T k (h : TermPrim W w.heap.size p 0 T k) => kitT_any W w.heap.size p 0 T k h
  clear hsa hsb hsx hsy hsk hse
  go_enter Tryz.func7, Tryz.ntmps7
  go_wp2_with fail
  refine c1.mono ?_
  rintro e w1 ⟨⟨p, rfl, t1⟩, b1⟩
  clear c1
  go_wp2_with fail
  refine (ck _ _ _ _ t1).mono ?_
  rintro e w' ⟨rfl, hw⟩
  rw [hw]
  clear hw w' ck
  go_wp2_with fail
  refine (c2 _ _ _ t1).mono ?_
  rintro e w2 ⟨rfl, t2, b2⟩
  clear c2
  have b12 := b1.trans b2
  clear b1 b2 t1
  go_wp2_with fail
  refine (c3 _ _ _ t2).mono ?_
  rintro e w3 ⟨rfl, t3, b3⟩
  clear c3
  have b13 := b12.trans b3
  clear b12 b3 t2
  go_wp2_with fail
  refine (c4 _ _ _ t3).mono ?_
  rintro e w4 ⟨rfl, t4, b4⟩
  clear c4
  have b14 := b13.trans b4
  clear b13 b4 t3
  go_wp2_with fail
  refine (c5 _ _ _ t4).mono ?_
  rintro e w5 ⟨rfl, t5, b5⟩
  clear c5
  have b15 := b14.trans b5
  clear b14 b5 t4
  go_wp2_with fail
  refine (c6 _ _ _ t5).mono ?_
  rintro e w6 ⟨rfl, t6, b6⟩
  clear c6
  have b16 := b15.trans b6
  clear b15 b6 t5
  go_wp2_with fail
  refine (c7 _ _ _ t6).mono ?_
  rintro e w7 ⟨rfl, t7, b7⟩
  clear c7
  have b17 := b16.trans b7
  clear b16 b7 t6
  go_wp2_with fail
  refine (c8 _ _ t7).mono ?_
  rintro e w8 ⟨rfl, t8, b8⟩
  clear c8
  have b18 := b17.trans b8
  clear b17 b8 t7
  go_wp2_with fail
  refine (c9 _ _ t8).mono ?_
  rintro e w9 ⟨rfl, t9, b9⟩
  clear c9
  have b19 := b18.trans b9
  clear b18 b9 t8
  go_wp2_with fail
  refine (c10 _ _ t9).mono ?_
  rintro e w10 ⟨rfl, t10, b10⟩
  clear c10
  have b20 := b19.trans b10
  clear b19 b10 t9
  go_wp2_with fail
  refine (c11 _ _ t10).mono ?_
  rintro e w11 ⟨⟨A, c, rfl⟩, b11⟩
  clear c11
  have b21 := b20.trans (b11.mono b20.size)
  clear b20 b11 t10
  go_wp2
  go_ret
  exact ⟨rfl, b21⟩

set_option maxRecDepth 100000 in
theorem kitReal_any (w : World) (K : Array Value) (h0 : K[0]? = some (.bool false)) : Calls Tryz.prog 6 #[.agg K] w fun e w' => (∃ p, e = .returned (.pointer (some ⟨p, 0, none⟩)) ∧ w.heap.size ≤ p ∧ RealPrim w' w.heap.size p 0) ∧ Below w.heap.size w w' := by
  have C0 : (w.alloc (.cells K 24)).cell? ⟨w.heap.size, 0, none⟩ = some (.bool false) := ((Blk.new w 24 K).cell 0).trans h0
  have hn := newReal (w.alloc (.cells K 24))
  clear h0
  go_enter Tryz.func6, Tryz.ntmps6
  go_wp2_with fail
  refine hn.mono ?_
  rintro e w2 ⟨rfl, hB, b2⟩
  clear hn C0
  go_wp2
  go_ret
  have b : Below w.heap.size w w2 := ((Below.refl _ _).alloc (Nat.le_refl _) _).trans (b2.mono (by simp))
  rw [World.size_alloc] at hB
  exact ⟨⟨_, rfl, by simp, .slice none 0 0, [], hB, World.ownsRow_nil _ _ _ _, by simp [Value.ownBlock]⟩, b⟩
set_option maxRecDepth 100000 in
theorem kitTerm_any (w : World) (K : Array Value) (h0 : K[0]? = some (.bool true)) : Calls Tryz.prog 6 #[.agg K] w fun e w' => (∃ base p, e = .returned (.pointer (some ⟨p, 0, none⟩)) ∧ w.heap.size ≤ base ∧ TermPrim w' base p 0 [] 0) ∧ Below w.heap.size w w' := by
  have C0 : (w.alloc (.cells K 24)).cell? ⟨w.heap.size, 0, none⟩ = some (.bool true) := ((Blk.new w 24 K).cell 0).trans h0
  have hn := newTerm_any (w.alloc (.cells K 24))
  clear h0
  go_enter Tryz.func6, Tryz.ntmps6
  go_wp2_with fail
  refine hn.mono ?_
  rintro e w2 ⟨⟨p, rfl, hp⟩, b2⟩
  clear hn C0
  go_wp2
  go_ret
  have b : Below w.heap.size w w2 := ((Below.refl _ _).alloc (Nat.le_refl _) _).trans (b2.mono (by simp))
  exact ⟨⟨_, _, rfl, by simp, hp⟩, b⟩

def likeB (s : List UInt8) : Bool := decide (s.length = 8 ∧ s.take 4 = markL)
set_option maxRecDepth 100000 in
theorem like_any (w : World) (s : ByteArray) : Calls Tryz.prog 26 #[.string s] w fun e w' => e = .returned (.bool (likeB s.data.toList)) ∧ w' = w := by
  have hsl : s.data.toList.length = s.size := rfl
  by_cases h8 : s.size = 8
  · have hk : ((s.size : Int) == 8) = true := by rw [beq_iff_eq]; omega
    have hex : s.extract 0 4 = bs (s.data.toList.take 4) := extract_take s.data.toList 4
    have hm : ((s.extract 0 4).toList == [240, 84, 82, 77]) = likeB s.data.toList := by
      rw [hex, Lib.toList_data, bs_list]
      unfold likeB
      rw [hsl]
      by_cases h : s.data.toList.take 4 = markL
      · simp [h, h8, markL]
      · simp only [h, and_false, decide_false]
        rw [beq_eq_false_iff_ne]; exact h
    clear hsl hex
    go_enter Tryz.func26, Tryz.ntmps26
    go_wp2_with fail
    go_ret
    exact ⟨rfl, rfl⟩
  · have hk : ((s.size : Int) == 8) = false := by rw [beq_eq_false_iff_ne]; omega
    have hm : likeB s.data.toList = false := by unfold likeB; rw [hsl]; simp [h8]
    clear hsl
    go_enter Tryz.func26, Tryz.ntmps26
    go_wp2_with fail
    go_ret
    exact ⟨by rw [hm]; rfl, rfl⟩

set_option maxRecDepth 100000 in
set_option maxHeartbeats 4000000 in
theorem odd_any (w : World) (K : Array Value) (terms : Bool) (s3 s4 s5 s9 s10 : ByteArray) (h0 : K[0]? = some (.bool terms)) (h3 : K[65]? = some (.string s3)) (h4 : K[66]? = some (.string s4)) (h5 : K[67]? = some (.string s5)) (h9 : K[71]? = some (.string s9)) (h10 : K[72]? = some (.string s10)) (b : Bool)
    (hb : b = (terms && (likeB s3.data.toList || likeB s4.data.toList || likeB s5.data.toList || likeB s9.data.toList || likeB s10.data.toList))) :
    Calls Tryz.prog 8 #[.agg K] w fun e w' => e = .returned (.bool b) ∧ Below w.heap.size w w' := by
  obtain ⟨w1, hw1⟩ : ∃ w1, w1 = w.alloc (.cells K 24) := ⟨_, rfl⟩
  have hB : Blk w1 w.heap.size 24 K := by rw [hw1]; exact Blk.new _ _ _
  have b1 : Below w.heap.size w w1 := by rw [hw1]; exact (Below.refl _ _).alloc (Nat.le_refl _) _
  have C0 : w1.cell? ⟨w.heap.size, 0, none⟩ = some (.bool terms) := (hB.cell 0).trans h0
  have C3 : w1.cell? ⟨w.heap.size, 65, none⟩ = some (.string s3) := (hB.cell 65).trans h3
  have C4 : w1.cell? ⟨w.heap.size, 66, none⟩ = some (.string s4) := (hB.cell 66).trans h4
  have C5 : w1.cell? ⟨w.heap.size, 67, none⟩ = some (.string s5) := (hB.cell 67).trans h5
  have C9 : w1.cell? ⟨w.heap.size, 71, none⟩ = some (.string s9) := (hB.cell 71).trans h9
  have C10 : w1.cell? ⟨w.heap.size, 72, none⟩ = some (.string s10) := (hB.cell 72).trans h10
  have l3 := like_any w1 s3
  have l4 := like_any w1 s4
  have l5 := like_any w1 s5
  have l9 := like_any w1 s9
  have l10 := like_any w1 s10
  obtain ⟨x3, hx3⟩ : ∃ x, x = likeB s3.data.toList := ⟨_, rfl⟩
  obtain ⟨x4, hx4⟩ : ∃ x, x = likeB s4.data.toList := ⟨_, rfl⟩
  obtain ⟨x5, hx5⟩ : ∃ x, x = likeB s5.data.toList := ⟨_, rfl⟩
  obtain ⟨x9, hx9⟩ : ∃ x, x = likeB s9.data.toList := ⟨_, rfl⟩
  obtain ⟨x10, hx10⟩ : ∃ x, x = likeB s10.data.toList := ⟨_, rfl⟩
  rw [← hx3] at l3 hb
  rw [← hx4] at l4 hb
  rw [← hx5] at l5 hb
  rw [← hx9] at l9 hb
  rw [← hx10] at l10 hb
  subst hw1
  have HB : Hid (b = (terms && (x3 || x4 || x5 || x9 || x10))) := hb
  clear hb hB h0 h3 h4 h5 h9 h10 hx3 hx4 hx5 hx9 hx10
  cases terms with
  | false =>
    go_enter Tryz.func8, Tryz.ntmps8
    go_wp2_with fail
    go_ret
    exact ⟨by rw [HB.out]; rfl, b1⟩
  | true =>
    cases x3 with
    | true =>
      go_enter Tryz.func8, Tryz.ntmps8
      go_wp2_with fail
      refine l3.mono ?_
      rintro e w' ⟨rfl, hw⟩
      rw [hw]
      clear hw w'
      go_wp2
      go_ret
      exact ⟨by rw [HB.out]; rfl, b1⟩
    | false =>
      cases x4 with
      | true =>
        go_enter Tryz.func8, Tryz.ntmps8
        go_wp2_with fail
        refine l3.mono ?_
        rintro e w' ⟨rfl, hw⟩
        rw [hw]
        clear hw w'
        go_wp2_with fail
        refine l4.mono ?_
        rintro e w' ⟨rfl, hw⟩
        rw [hw]
        clear hw w'
        go_wp2
        go_ret
        exact ⟨by rw [HB.out]; rfl, b1⟩
      | false =>
        cases x5 with
        | true =>
          go_enter Tryz.func8, Tryz.ntmps8
          go_wp2_with fail
          refine l3.mono ?_
          rintro e w' ⟨rfl, hw⟩
          rw [hw]
          clear hw w'
          go_wp2_with fail
          refine l4.mono ?_
          rintro e w' ⟨rfl, hw⟩
          rw [hw]
          clear hw w'
          go_wp2_with fail
          refine l5.mono ?_
          rintro e w' ⟨rfl, hw⟩
          rw [hw]
          clear hw w'
          go_wp2
          go_ret
          exact ⟨by rw [HB.out]; rfl, b1⟩
        | false =>
          cases x9 with
          | true =>
            go_enter Tryz.func8, Tryz.ntmps8
            go_wp2_with fail
            refine l3.mono ?_
            rintro e w' ⟨rfl, hw⟩
            rw [hw]
            clear hw w'
            go_wp2_with fail
            refine l4.mono ?_
            rintro e w' ⟨rfl, hw⟩
            rw [hw]
            clear hw w'
            go_wp2_with fail
            refine l5.mono ?_
            rintro e w' ⟨rfl, hw⟩
            rw [hw]
            clear hw w'
            go_wp2_with fail
            refine l9.mono ?_
            rintro e w' ⟨rfl, hw⟩
            rw [hw]
            clear hw w'
            go_wp2
            go_ret
            exact ⟨by rw [HB.out]; rfl, b1⟩
          | false =>
            cases x10 with
            | true =>
              go_enter Tryz.func8, Tryz.ntmps8
              go_wp2_with fail
              refine l3.mono ?_
              rintro e w' ⟨rfl, hw⟩
              rw [hw]
              clear hw w'
              go_wp2_with fail
              refine l4.mono ?_
              rintro e w' ⟨rfl, hw⟩
              rw [hw]
              clear hw w'
              go_wp2_with fail
              refine l5.mono ?_
              rintro e w' ⟨rfl, hw⟩
              rw [hw]
              clear hw w'
              go_wp2_with fail
              refine l9.mono ?_
              rintro e w' ⟨rfl, hw⟩
              rw [hw]
              clear hw w'
              go_wp2_with fail
              refine l10.mono ?_
              rintro e w' ⟨rfl, hw⟩
              rw [hw]
              clear hw w'
              go_wp2
              go_ret
              exact ⟨by rw [HB.out]; rfl, b1⟩
            | false =>
              go_enter Tryz.func8, Tryz.ntmps8
              go_wp2_with fail
              refine l3.mono ?_
              rintro e w' ⟨rfl, hw⟩
              rw [hw]
              clear hw w'
              go_wp2_with fail
              refine l4.mono ?_
              rintro e w' ⟨rfl, hw⟩
              rw [hw]
              clear hw w'
              go_wp2_with fail
              refine l5.mono ?_
              rintro e w' ⟨rfl, hw⟩
              rw [hw]
              clear hw w'
              go_wp2_with fail
              refine l9.mono ?_
              rintro e w' ⟨rfl, hw⟩
              rw [hw]
              clear hw w'
              go_wp2_with fail
              refine l10.mono ?_
              rintro e w' ⟨rfl, hw⟩
              rw [hw]
              clear hw w'
              go_wp2
              go_ret
              exact ⟨by rw [HB.out]; rfl, b1⟩
end Go.Proofs.YtipehnojibdfeaaGreat
