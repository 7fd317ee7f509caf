/- Parts of the proof, as they were built: Rec7, Rec8, Rec11, Rec9, Rec10. -/
import Derived.Test.YtipehnojibdfeaaGreatRk15
import Derived.Deep.RegionHeld3

/- what a record takes with terms; layer 15's works. -/
namespace Go.Proofs.YtipehnojibdfeaaGreat
open Go Go.Proofs Go.RowKit

set_option maxRecDepth 100000 in
theorem recTakeT_yes (w : World) (base p n r n1 n2 : Nat) (T : List Node) (k : Nat) (s1 : ByteArray) (key nn sealed : List UInt8) (hp : TermPrim w base p n T k) (hlen : T.length ≤ 60000) (hn : n ≤ 1000000) (hbr : base ≤ r) (hr : Blk w r 67 (recCells p s1 n1 (bs key) n2)) (h8 : nn.length = 8) (hgt : n2 < beNat nn) (hkl : key.length ≤ 100000) (hsl : sealed.length ≤ 100000)
    (m nd pa pb pc pd km j : Nat) (l txt : List UInt8) (hm : numOf T.length sealed = some m) (hx : T[m]? = some (.made 6 nd l [pa, pb, pc, pd])) (hpa : pa ≤ 65536)
    (hkm : numOf T.length key = some km) (hkx : T[km]? = some (.name j)) (hke : key = textL pa) (hnn : numOf T.length nn = none) (hnx : T[pb]? = some (.data nn)) (hax : T[pc]? = some (.data nn)) (htx : T[pd]? = some (.data txt)) :
    Calls Tryz.prog 15 #[.pointer (some ⟨r, 0, none⟩), .string (bs (nn ++ sealed))] w fun e w' => e = .returned (.tuple #[.string (bs txt), .int .i64 0]) ∧ TermPrim w' base p (n + 1) T k ∧ Blk w' r 67 (recCells p s1 n1 (bs key) (beNat nn)) ∧ RecKeeps base r w w' := by
  have hb : base ≤ w.heap.size := by obtain ⟨_, _, _, h2, _⟩ := hp; exact h2
  obtain ⟨f1, f2, f3⟩ := frame_parts nn sealed h8
  have hsz : (bs (nn ++ sealed)).size = 8 + sealed.length := by rw [bs_size, List.length_append, h8]
  have hop : ∀ x : Later w, Calls Tryz.prog 11 #[.pointer (some ⟨p, 0, none⟩), .string (bs key), .string ((bs (nn ++ sealed)).extract 0 8), .string ((bs (nn ++ sealed)).extract 0 8), .string ((bs (nn ++ sealed)).extract 8 (bs (nn ++ sealed)).size)] x.v fun e w' => e = .returned (.tuple #[.string (bs txt), .int .i64 0]) ∧ TermPrim w' base p (n + 1) T k ∧ Below base x.v w' ∧ Far notPT x.v w' := fun x => by
    rw [f1, f2]
    exact openT2_any x.v base p n T k (hp.later x.h) hlen hn key nn nn sealed (by omega) (by omega) (by omega) (by omega) m nd pa pb pc pd km j l nn nn txt hm hx hpa hkm hkx hnn hnx hnn hax htx true (by rw [hke]; simp)
  refine (recTake_any w r p n1 n2 s1 (bs key) (bs (nn ++ sealed)) (bs txt) 0 (by omega) hr (by omega) (by omega) (by rw [f3]; exact hgt) (fun x w' => TermPrim w' base p (n + 1) T k ∧ Below base x w' ∧ Far notPT x w') hop (fun x w' g t cs h hB ht => hB.far_ h.2.2 (by subst ht; exact ⟨by decide, by decide, by decide, by decide⟩))).mono ?_
  intro e w' h
  rw [if_pos rfl, f3] at h
  obtain ⟨he, x, w2, ⟨hP2, c2, q2⟩, rfl, hr'⟩ := h
  have hr2 := (hr.later x.h).far_ q2 (⟨by decide, by decide, by decide, by decide⟩ : notPT (.cells _ 67 (0, 0)))
  exact ⟨he, hP2.setRec hr2, hr', recKeeps_of x.h c2 q2 (Below.refl _ _) hb hbr hr2⟩

/-- Open's answer to what was sealed -/
theorem hopR (key : ByteArray) (hk : key.size = 32) (nn text : List UInt8) (h8 : nn.length = 8) (ht : text.length ≤ 16384) (F H : Nat → Int) (W : World) (hT : Tabs W F H) :
    Calls Tryz.prog 62 #[.agg #[], .string key, .string (bs nn), .string (bs nn), .string (bs (sealF F H key.data.toList nn nn text))] W fun e w' => e = .returned (.tuple #[.string (bs text), .int .i64 0]) ∧ Below W.heap.size W w' := by
  have h := plainOpen_any W key (bs nn) (bs nn) (bs (sealF F H key.data.toList nn nn text)) text.length hk (by rw [bs_size]; omega) (by rw [bs_size]; omega) (by rw [bs_size, sealF_length]) ht F H hT
  rw [bs_list, bs_list, openPost_sealF] at h
  exact h
def wR5 : List Node := [.name 0, .name 1, .data (num8 1), .data [120], .made 6 0 [] [0, 2, 2, 3]]
theorem r1 : makeN twoT 6 [] [textL 0, num8 1, num8 1, [120]] = (wR5, 4) := by kernel_rfl
theorem r2 : numOf wR5.length (textL 4) = some 4 := by kernel_rfl
theorem r3 : numOf wR5.length (textL 0) = some 0 := by kernel_rfl
theorem r4 : numOf wR5.length (num8 1) = none := by kernel_rfl
theorem r5 : beNat (num8 1) = 1 := by kernel_rfl

set_option maxRecDepth 100000 in
set_option maxHeartbeats 8000000 in
theorem works15_any (w : World) (F H : Nat → Int) (hT : Tabs w F H) : Calls Tryz.prog 17 #[] w fun e w' => e = .returned (.bool true) ∧ Below w.heap.size w w' := by
  go_enter Tryz.func17, Tryz.ntmps17
  go_wp2_with fail
  go_loopw [1] (fun i wr => ∃ k : Nat, k ≤ 2 ∧ i = .int .i64 k ∧ Below w.heap.size w wr) (fun i _ => 2 - (intOf i).toNat)
  case atStart => exact ⟨0, by omega, rfl, Below.refl _ _⟩
  case round =>
    obtain ⟨k, hk, rfl, hb⟩ := hrel
    by_cases h0 : k = 0
    · subst h0
      have hbo := bothReal_any wr
      go_wp2_with fail
      refine hbo.mono ?_
      rintro e w1 ⟨p, q1, q2, rfl, hp0, hp1, hp2, hP1, hq1, hq2, b1⟩
      clear hbo
      have hT1 := hT.later (hb.trans (b1.mono hb.size))
      have hs := recSealR w1 wr.heap.size p 0 q1 0 0 key1 key2 ⟨#[120]⟩ hP1 (by omega) b1.size hp0 (by omega) hq1 (by omega) (by unfold key1; rw [bs_size]; rfl) (by decide) F H hT1
      obtain ⟨S, hS⟩ : ∃ S, S = sealF F H key1.data.toList (num8 1) (num8 1) [120] := ⟨_, rfl⟩
      have HS : Hid (S = sealF F H key1.data.toList (num8 1) (num8 1) [120]) := hS
      have hSl : S.length = 33 := by rw [hS, sealF_length]; rfl
      obtain ⟨f, hf⟩ : ∃ f, f = bs (num8 1 ++ S) := ⟨_, rfl⟩
      have hfs : f.size = 41 := by rw [hf, bs_size, List.length_append, num8_length, hSl]
      have HF : Hid (f = bs (num8 1 ++ S)) := hf
      rw [show ((⟨#[120]⟩ : ByteArray).data.toList) = [120] from rfl, ← hS, ← hf] at hs
      clear hS hf
      go_wp2_with fail
      refine hs.mono ?_
      rintro e w2 ⟨rfl, hP2, hq1', hk2⟩
      clear hs
      have hq2' := hk2.2 _ _ _ (by omega) hq2 ⟨by decide, by decide, by decide, by decide⟩
      have hT2 : Tabs w2 F H := hT.later (hb.trans ((b1.trans hk2.1).mono hb.size))
      obtain ⟨g1, g2, g3⟩ := frame_parts (num8 1) S (num8_length 1)
      rw [← HF.out] at g1 g2 g3
      have ht := recTakeR_yes w2 wr.heap.size p 1 q2 0 0 key2 key1 f (bs [120]) hP2 (by omega) (Nat.le_trans b1.size hk2.1.size) hp0 (by omega) hq2' (by omega) (by omega) (by rw [g3, r5]; omega) (fun x => by
        rw [g1, g2, HS.out]
        exact hopR key1 (by unfold key1; rw [bs_size]; rfl) (num8 1) [120] (num8_length 1) (by simp) F H x.v (hT2.later x.h))
      have kd : decide ((f.size : Int) ≤ 8) = false := by rw [decide_eq_false_iff_not]; omega
      have k4 : ((bs [120]).toList == [120]) = true := by rw [Lib.toList_data, bs_list]; decide
      have k5 : ((bs [120]).toList != [120]) = false := by rw [bne, k4]; rfl
      clear g1 g2 g3 hfs
      go_wp2_with fail
      refine ht.mono ?_
      rintro e w3 ⟨rfl, hP3, hq2'', hk3⟩
      clear ht
      have b3 : Below w.heap.size w w3 := hb.trans (((b1.trans hk2.1).trans hk3.1).mono hb.size)
      go_wp2
      go_roundw
      case rel => exact ⟨1, by omega, by rfl, b3⟩
      case measure => simp [intOf]
    · by_cases h1 : k = 1
      · subst h1
        have hbo := bothTerm_any wr
        go_wp2_with fail
        refine hbo.mono ?_
        rintro e w1 ⟨p, q1, q2, rfl, hp1, hp2, hP1, hq1, hq2, b1⟩
        clear hbo
        have hs := recSealT w1 wr.heap.size p 0 q1 0 0 twoT 2 (textL 0) (bs (textL 1)) [120] hP1 (by simp [twoT]) (by omega) (by omega) hq1 (by omega) (by rw [textL_length]; omega) (by simp)
        rw [r1] at hs
        simp only at hs
        obtain ⟨f, hf⟩ : ∃ f, f = bs (num8 1 ++ textL 4) := ⟨_, rfl⟩
        have hfs : f.size = 16 := by rw [hf, bs_size, List.length_append, num8_length, textL_length]
        have HF : Hid (f = bs (num8 1 ++ textL 4)) := hf
        rw [show bs [120] = (⟨#[120]⟩ : ByteArray) from rfl, ← hf] at hs
        clear hf
        go_wp2_with fail
        refine hs.mono ?_
        rintro e w2 ⟨rfl, hP2, hq1', hk2⟩
        clear hs
        have hq2' := hk2.2 _ _ _ (by omega) hq2 ⟨by decide, by decide, by decide, by decide⟩
        have ht := recTakeT_yes w2 wr.heap.size p 1 q2 0 0 wR5 2 (bs (textL 1)) (textL 0) (num8 1) (textL 4) hP2 (by simp [wR5]) (by omega) (by omega) hq2' (num8_length 1) (by rw [r5]; omega) (by rw [textL_length]; omega) (by rw [textL_length]; omega) 4 0 0 2 2 3 0 0 [] [120] r2 rfl (by omega) r3 rfl rfl r4 rfl rfl rfl
        rw [← HF.out] at ht
        have kd : decide ((f.size : Int) ≤ 8) = false := by rw [decide_eq_false_iff_not]; omega
        have k4 : ((bs [120]).toList == [120]) = true := by rw [Lib.toList_data, bs_list]; decide
        have k5 : ((bs [120]).toList != [120]) = false := by rw [bne, k4]; rfl
        clear hfs
        go_wp2_with fail
        refine ht.mono ?_
        rintro e w3 ⟨rfl, hP3, hq2'', hk3⟩
        clear ht
        have b3 : Below w.heap.size w w3 := hb.trans (((b1.trans hk2.1).trans hk3.1).mono hb.size)
        go_wp2
        go_roundw
        case rel => exact ⟨2, by omega, by rfl, b3⟩
        case measure => simp [intOf]
      · obtain rfl : k = 2 := by omega
        go_wp2
        go_ret
        exact ⟨rfl, hb⟩
end Go.Proofs.YtipehnojibdfeaaGreat

/- record: Copy; what comes of any frame, with the real kind. -/
namespace Go.Proofs.YtipehnojibdfeaaGreat
open Go Go.Proofs Go.RowKit

set_option maxRecDepth 100000 in
set_option maxHeartbeats 4000000 in
theorem recCopy_any (w : World) (r p p2 n1 n2 : Nat) (s1 s2 : ByteArray) (hr : Blk w r 67 (recCells p s1 n1 s2 n2)) :
    Calls Tryz.prog 14 #[.pointer (some ⟨r, 0, none⟩), .pointer (some ⟨p2, 0, none⟩)] w fun e w' => e = .returned (.pointer (some ⟨w.heap.size, 0, none⟩)) ∧ Blk w' w.heap.size 67 (recCells p2 s1 n1 s2 n2) ∧ Below w.heap.size w w' := by
  have hnone := recNone_any w r p n1 n2 s1 s2 hr
  have C0 : w.cell? ⟨r, 0, none⟩ = some (.pointer (some ⟨p, 0, none⟩)) := hr.cell 0
  have C1 : w.cell? ⟨r, 1, none⟩ = some (.string s1) := hr.cell 1
  have C2 : w.cell? ⟨r, 2, none⟩ = some (.int .u64 (n1 : Int)) := hr.cell 2
  have C3 : w.cell? ⟨r, 3, none⟩ = some (.string s2) := hr.cell 3
  have C4 : w.cell? ⟨r, 4, none⟩ = some (.int .u64 (n2 : Int)) := hr.cell 4
  have hB : Blk (w.alloc (.cells #[.pointer (some ⟨p, 0, none⟩), .string s1, .int .u64 (n1 : Int), .string s2, .int .u64 (n2 : Int)] 67)) w.heap.size 67 #[.pointer (some ⟨p, 0, none⟩), .string s1, .int .u64 (n1 : Int), .string s2, .int .u64 (n2 : Int)] := Blk.new _ _ _
  have D0 : (w.alloc (.cells #[.pointer (some ⟨p, 0, none⟩), .string s1, .int .u64 (n1 : Int), .string s2, .int .u64 (n2 : Int)] 67)).cell? ⟨w.heap.size, 0, none⟩ = some (.pointer (some ⟨p, 0, none⟩)) := hB.cell 0
  have F0 : (w.alloc (.cells #[.pointer (some ⟨p, 0, none⟩), .string s1, .int .u64 (n1 : Int), .string s2, .int .u64 (n2 : Int)] 67)).frozen? ⟨w.heap.size, 0, none⟩ = false := hB.frozen 0
  clear hr
  go_enter Tryz.func14, Tryz.ntmps14
  go_wp2_with fail
  refine hnone.mono ?_
  rintro e w' ⟨rfl, hw⟩
  rw [hw]
  clear hw w' hnone
  go_wp2_with fail
  go_ret
  first
    | exact ⟨rfl, hB.set_ 0 _, ((Below.refl _ _).alloc (Nat.le_refl _) _).setCell (Nat.le_refl _) _⟩
    | exact ⟨rfl, Blk.new _ _ _, (Below.refl _ _).alloc (Nat.le_refl _) _⟩

/-- what is opened, sealed again -/
theorem reseal (F H : Nat → Int) (key nonce ad c t : List UInt8) (h : tagF F H key ad nonce c = t) : sealF F H key nonce ad (turnF F H key nonce c) = c ++ t := by
  rw [sealF, turnF_twice, h]

set_option maxRecDepth 100000 in
/-- whatever frame comes: it is refused, and nothing turns; or it is just what the key seals to -/
theorem recTakeR_gen (s2 f : ByteArray) (hs2 : s2.size = 32) (hf2 : f.size ≤ 16424) (F H : Nat → Int) :
    (∃ er : Int, er ≠ 0 ∧ (er = 4 ∨ er = 12 ∨ er = 10) ∧ ∀ (w : World) (base p n r n1 : Nat) (s1 : ByteArray), RealP w base p n → n ≤ 1000000 → base ≤ w.heap.size → base ≤ p → base ≤ r → Blk w r 67 (recCells p s1 n1 s2 0) → Tabs w F H → Calls Tryz.prog 15 #[.pointer (some ⟨r, 0, none⟩), .string f] w fun e w' => e = .returned (.tuple #[.string ⟨#[]⟩, .int .i64 er]) ∧ Below w.heap.size w w') ∨
    (8 ≤ f.size ∧ ∃ out : List UInt8, out.length ≤ 16384 ∧ f = bs (f.data.toList.take 8 ++ sealF F H s2.data.toList (f.data.toList.take 8) (f.data.toList.take 8) out) ∧
      ∀ (w : World) (base p n r n1 : Nat) (s1 : ByteArray), RealP w base p n → n ≤ 1000000 → base ≤ w.heap.size → base ≤ p → base ≤ r → Blk w r 67 (recCells p s1 n1 s2 0) → Tabs w F H → Calls Tryz.prog 15 #[.pointer (some ⟨r, 0, none⟩), .string f] w fun e w' => e = .returned (.tuple #[.string (bs out), .int .i64 0]) ∧ RealP w' base p (n + 1) ∧ RecKeeps base r w w') := by
  by_cases h8 : f.size < 8
  · exact .inl ⟨4, by omega, .inl rfl, fun w base p n r n1 s1 hp hnn hb hbp hbr hr hT => recTake_short w r p n1 0 s1 s2 f hr h8⟩
  · by_cases h0 : numIn f ≤ 0
    · exact .inl ⟨12, by omega, .inr (.inl rfl), fun w base p n r n1 s1 hp hnn hb hbp hbr hr hT => recTake_stale w r p n1 0 s1 s2 f hr (by omega) h0⟩
    · have hfl : f.data.toList.length = f.size := rfl
      obtain ⟨nn, hnn8⟩ : ∃ nn, nn = f.data.toList.take 8 := ⟨_, rfl⟩
      obtain ⟨rest, hrest⟩ : ∃ rest, rest = f.data.toList.drop 8 := ⟨_, rfl⟩
      have hfe : f = bs (nn ++ rest) := by rw [hnn8, hrest, List.take_append_drop]; rfl
      have hl8 : nn.length = 8 := by rw [hnn8, List.length_take, hfl]; omega
      have hrl : rest.length = f.size - 8 := by rw [hrest, List.length_drop, hfl]
      obtain ⟨g1, g2, _⟩ := frame_parts nn rest hl8
      rw [← hfe] at g1 g2
      by_cases h32 : rest.length < 32
      · refine .inl ⟨10, by omega, .inr (.inr rfl), fun w base p n r n1 s1 hp hnn hb hbp hbr hr hT => recTakeR_no w base p n r n1 0 s1 s2 f ⟨#[]⟩ hp hr (by omega) (by omega) (by omega) (fun x => ?_)⟩
        rw [g1, g2]
        exact plainOpen_bad x.v s2 (bs nn) (bs nn) (bs rest) hs2 (.inl (by rw [bs_size]; exact h32)) (by rw [bs_size]; omega)
      · obtain ⟨m, hm⟩ : ∃ m, rest.length = m + 32 := ⟨rest.length - 32, by omega⟩
        have hop : ∀ (w : World), Tabs w F H → ∀ x : Later w, Calls Tryz.prog 62 #[.agg #[], .string s2, .string (f.extract 0 8), .string (f.extract 0 8), .string (f.extract 8 f.size)] x.v fun e w' => e = .returned (OpenPost F H s2.data.toList nn nn (rest.take m) (rest.drop m)) ∧ Below x.v.heap.size x.v w' := fun w hT x => by
          rw [g1, g2]
          exact plainOpen_any x.v s2 (bs nn) (bs nn) (bs rest) m hs2 (by rw [bs_size]; omega) (by rw [bs_size]; omega) (by rw [bs_size]; exact hm) (by omega) F H (hT.later x.h)
        by_cases ht : tagF F H s2.data.toList nn nn (rest.take m) = rest.drop m
        · have hol : (turnF F H s2.data.toList nn (rest.take m)).length = m := by rw [turnF_length, List.length_take]; omega
          refine .inr ⟨by omega, turnF F H s2.data.toList nn (rest.take m), by omega, ?_, ?_⟩
          · rw [← hnn8, reseal F H _ _ _ _ _ ht, List.take_append_drop]; exact hfe
          · intro w base p n r n1 s1 hp hnn hb hbp hbr hr hT
            refine (recTakeR_yes w base p n r n1 0 s1 s2 f (bs (turnF F H s2.data.toList nn (rest.take m))) hp hnn hb hbp hbr hr (by omega) (by omega) (by omega) (fun x => ?_)).mono fun e w' h => ⟨h.1, h.2.1, h.2.2.2⟩
            have h := hop w hT x
            rw [OpenPost, if_pos ht] at h
            exact h
        · refine .inl ⟨10, by omega, .inr (.inr rfl), fun w base p n r n1 s1 hp hnn hb hbp hbr hr hT => recTakeR_no w base p n r n1 0 s1 s2 f ⟨#[]⟩ hp hr (by omega) (by omega) (by omega) (fun x => ?_)⟩
          have h := hop w hT x
          rw [OpenPost, if_neg ht] at h
          exact h
end Go.Proofs.YtipehnojibdfeaaGreat

/- record: Sent, Seen, Copy to none, what a record that is none answers, Seal that is refused; prim of terms: Open of a text that is no term's. -/
namespace Go.Proofs.YtipehnojibdfeaaGreat
open Go Go.Proofs Go.RowKit

set_option maxHeartbeats 2000000 in
theorem recSent_any (w : World) (r p n1 n2 : Nat) (s1 s2 : ByteArray) (hr : Blk w r 67 (recCells p s1 n1 s2 n2)) :
    Calls Tryz.prog 18 #[.pointer (some ⟨r, 0, none⟩)] w fun e w' => e = .returned (.int .u64 (n1 : Int)) ∧ w' = w := by
  have hnone := recNone_any w r p n1 n2 s1 s2 hr
  have C2 : w.cell? ⟨r, 2, none⟩ = some (.int .u64 (n1 : Int)) := hr.cell 2
  clear hr
  go_enter Tryz.func18, Tryz.ntmps18
  go_wp2_with fail
  refine hnone.mono ?_
  rintro e w' ⟨rfl, hw⟩
  rw [hw]
  clear hw w' hnone
  go_wp2
  go_ret
  exact ⟨rfl, rfl⟩
set_option maxHeartbeats 2000000 in
theorem recSeen_any (w : World) (r p n1 n2 : Nat) (s1 s2 : ByteArray) (hr : Blk w r 67 (recCells p s1 n1 s2 n2)) :
    Calls Tryz.prog 19 #[.pointer (some ⟨r, 0, none⟩)] w fun e w' => e = .returned (.int .u64 (n2 : Int)) ∧ w' = w := by
  have hnone := recNone_any w r p n1 n2 s1 s2 hr
  have C2 : w.cell? ⟨r, 4, none⟩ = some (.int .u64 (n2 : Int)) := hr.cell 4
  clear hr
  go_enter Tryz.func19, Tryz.ntmps19
  go_wp2_with fail
  refine hnone.mono ?_
  rintro e w' ⟨rfl, hw⟩
  rw [hw]
  clear hw w' hnone
  go_wp2
  go_ret
  exact ⟨rfl, rfl⟩
set_option maxHeartbeats 2000000 in
theorem recCopy_nil (w : World) (r p n1 n2 : Nat) (s1 s2 : ByteArray) (hr : Blk w r 67 (recCells p s1 n1 s2 n2)) :
    Calls Tryz.prog 14 #[.pointer (some ⟨r, 0, none⟩), .pointer none] w fun e w' => e = .returned (.pointer none) ∧ w' = w := by
  have hnone := recNone_any w r p n1 n2 s1 s2 hr
  clear hr
  go_enter Tryz.func14, Tryz.ntmps14
  go_wp2_with fail
  refine hnone.mono ?_
  rintro e w' ⟨rfl, hw⟩
  rw [hw]
  clear hw w' hnone
  go_wp2
  go_ret
  exact ⟨rfl, rfl⟩

/-! a record that is none -/
theorem nilNone_any (w : World) : Calls Tryz.prog 30 #[.pointer none] w fun e w' => e = .returned (.bool true) ∧ w' = w := by
  go_enter Tryz.func30, Tryz.ntmps30
  go_wp2_with fail
  go_ret
  exact ⟨rfl, rfl⟩
theorem nilOpen_any (w : World) (s1 s2 : ByteArray) : Calls Tryz.prog 20 #[.pointer none, .string s1, .string s2] w fun e w' => e = .returned (.pointer none) ∧ w' = w := by
  go_enter Tryz.func20, Tryz.ntmps20
  go_wp2_with fail
  go_ret
  exact ⟨rfl, rfl⟩
theorem nilSeal_any (w : World) (s : ByteArray) : Calls Tryz.prog 13 #[.pointer none, .string s] w fun e w' => e = .returned (.tuple #[.string ⟨#[]⟩, .int .i64 1]) ∧ Below w.heap.size w w' := by
  have hn := nilNone_any (w.alloc (.cells #[.pointer none] 34))
  have C0 : (w.alloc (.cells #[.pointer none] 34)).cell? ⟨w.heap.size, 0, none⟩ = some (.pointer none) := (Blk.new w _ _).cell 0
  go_enter Tryz.func13, Tryz.ntmps13
  go_wp2_with fail
  refine hn.mono ?_
  rintro e w' ⟨rfl, hw⟩
  rw [hw]
  clear hw w' hn
  go_wp2
  go_ret2
  exact ⟨rfl, (Below.refl _ _).alloc (Nat.le_refl _) _⟩
theorem nilTake_any (w : World) (s : ByteArray) : Calls Tryz.prog 15 #[.pointer none, .string s] w fun e w' => e = .returned (.tuple #[.string ⟨#[]⟩, .int .i64 1]) ∧ w' = w := by
  have hn := nilNone_any w
  go_enter Tryz.func15, Tryz.ntmps15
  go_wp2_with fail
  refine hn.mono ?_
  rintro e w' ⟨rfl, hw⟩
  rw [hw]
  clear hw w' hn
  go_wp2
  go_ret2
  exact ⟨rfl, rfl⟩
theorem nilSent_any (w : World) : Calls Tryz.prog 18 #[.pointer none] w fun e w' => e = .returned (.int .u64 0) ∧ w' = w := by
  have hn := nilNone_any w
  go_enter Tryz.func18, Tryz.ntmps18
  go_wp2_with fail
  refine hn.mono ?_
  rintro e w' ⟨rfl, hw⟩
  rw [hw]
  clear hw w' hn
  go_wp2
  go_ret
  exact ⟨rfl, rfl⟩
theorem nilSeen_any (w : World) : Calls Tryz.prog 19 #[.pointer none] w fun e w' => e = .returned (.int .u64 0) ∧ w' = w := by
  have hn := nilNone_any w
  go_enter Tryz.func19, Tryz.ntmps19
  go_wp2_with fail
  refine hn.mono ?_
  rintro e w' ⟨rfl, hw⟩
  rw [hw]
  clear hw w' hn
  go_wp2
  go_ret
  exact ⟨rfl, rfl⟩
theorem nilCopy_any (w : World) : Calls Tryz.prog 14 #[.pointer none, .pointer none] w fun e w' => e = .returned (.pointer none) ∧ w' = w := by
  have hn := nilNone_any w
  go_enter Tryz.func14, Tryz.ntmps14
  go_wp2_with fail
  refine hn.mono ?_
  rintro e w' ⟨rfl, hw⟩
  rw [hw]
  clear hw w' hn
  go_wp2
  go_ret
  exact ⟨rfl, rfl⟩

set_option maxRecDepth 100000 in
set_option maxHeartbeats 4000000 in
/-- Seal that prim refuses -/
theorem recSeal_err (w : World) (r p n1 n2 : Nat) (s1 s2 text : ByteArray) (er : Int) (her : 0 < er ∧ er < 20) (hr : Blk w r 67 (recCells p s1 n1 s2 n2)) (hn : n1 < 1099511627776)
    (hs : ∀ x : Later w, Calls Tryz.prog 10 #[.pointer (some ⟨p, 0, none⟩), .string s1, .string (bs (num8 (n1 + 1))), .string (bs (num8 (n1 + 1))), .string text] x.v fun e w' => e = .returned (.tuple #[.string ⟨#[]⟩, .int .i64 er]) ∧ Below x.v.heap.size x.v w') :
    Calls Tryz.prog 13 #[.pointer (some ⟨r, 0, none⟩), .string text] w fun e w' => e = .returned (.tuple #[.string ⟨#[]⟩, .int .i64 er]) ∧ Below w.heap.size w w' := by
  obtain ⟨w1, hw1⟩ : ∃ w1, w1 = w.alloc (.cells #[.pointer (some ⟨r, 0, none⟩)] 34) := ⟨_, rfl⟩
  have b1 : Below w.heap.size w w1 := by rw [hw1]; exact (Below.refl _ _).alloc (Nat.le_refl _) _
  have hc1 : Blk w1 w.heap.size 34 #[.pointer (some ⟨r, 0, none⟩)] := by rw [hw1]; exact Blk.new _ _ _
  have hr1 := hr.later b1
  have hnone := recNone_any w1 r p n1 n2 s1 s2 hr1
  obtain ⟨sn, hsn⟩ : ∃ sn, sn = bs (num8 (n1 + 1)) := ⟨_, rfl⟩
  rw [← hsn] at hs
  have L0 := later_cell (show w1.cell? ⟨w.heap.size, 0, none⟩ = some (.pointer (some ⟨r, 0, none⟩)) from hc1.cell 0)
  have L1 := later_cell (show w1.cell? ⟨r, 1, none⟩ = some (.string s1) from hr1.cell 1)
  have C0 : w1.cell? ⟨w.heap.size, 0, none⟩ = some (.pointer (some ⟨r, 0, none⟩)) := hc1.cell 0
  have C1 : w1.cell? ⟨r, 0, none⟩ = some (.pointer (some ⟨p, 0, none⟩)) := hr1.cell 0
  have C2 : w1.cell? ⟨r, 2, none⟩ = some (.int .u64 (n1 : Int)) := hr1.cell 2
  have hkd : decide ((1099511627776 : Int) ≤ (n1 : Int)) = false := by rw [decide_eq_false_iff_not]; omega
  have hnum : ∀ x : Later w1, Calls Tryz.prog 31 #[.pointer (some ⟨w.heap.size, 0, none⟩)] x.v fun e w' => e = .returned (.string sn) ∧ Below x.v.heap.size x.v w' := fun x => by rw [hsn]; exact recNumber_any x.v w.heap.size r p n1 n2 s1 s2 (hr1.later x.h) (hc1.later x.h) hn
  have hseal : ∀ x : Later w1, Calls Tryz.prog 10 #[.pointer (some ⟨p, 0, none⟩), .string s1, .string sn, .string sn, .string text] x.v fun e w' => e = .returned (.tuple #[.string ⟨#[]⟩, .int .i64 er]) ∧ Below x.v.heap.size x.v w' := fun x => hs ⟨x.v, Below.step b1 x.h⟩
  have HW1 : Hid (w1 = w.alloc (.cells #[.pointer (some ⟨r, 0, none⟩)] 34)) := hw1
  have he : (er != 0) = true := by rw [bne_iff_ne]; omega
  clear hw1 hsn hs hc1 hr1 hr
  go_enter Tryz.func13, Tryz.ntmps13
  go_wp2_with fail
  rw [← HW1.out]
  refine hnone.mono ?_
  rintro e w' ⟨rfl, hw⟩
  rw [hw]
  clear hw w' hnone
  go_wp2_with fail
  refine wp_region_later (by kernel_rfl) (by kernel_rfl) ?_
  repeat (go_big_quiet_step ((first | (go_at_call 31; exact later_of (hnum _)) | (go_at_call 10; exact later_of (hseal _)))))
  refine wpQuiet_nil ?_
  intro _ hw'
  obtain ⟨x, hw''⟩ := hw'
  subst hw''
  go_wp2
  go_ret2
  exact ⟨rfl, Below.step b1 x.h⟩

set_option maxRecDepth 100000 in
set_option maxHeartbeats 4000000 in
/-- open: a text that is no term's -/
theorem symOpen_none (w : World) (base t M : Nat) (T : List Node) (k : Nat) (hT : TableAt w base t M T k) (hlen : T.length ≤ 60000) (key nonce ad : ByteArray) (sealed : List UInt8) (hsl : sealed.length ≤ 9223372036854775807) (hm : numOf T.length sealed = none) :
    Calls Tryz.prog 125 #[.agg #[.pointer (some ⟨t, 0, none⟩)], .string key, .string nonce, .string ad, .string (bs sealed)] w fun e w' => e = .returned (.tuple #[.string ⟨#[]⟩, .int .i64 10]) ∧ Below w.heap.size w w' := by
  obtain ⟨w1, hw1⟩ : ∃ w1, w1 = w.alloc (.cells #[.pointer (some ⟨t, 0, none⟩)] 78) := ⟨_, rfl⟩
  have q1 : Below w.heap.size w w1 := by rw [hw1]; exact (Below.refl _ _).alloc (Nat.le_refl _) _
  have hof := of_none w1 base t M T k (hT.later q1) (by omega) sealed hsl hm
  have HW1 : Hid (w1 = w.alloc (.cells #[.pointer (some ⟨t, 0, none⟩)] 78)) := hw1
  clear hw1 hm hT
  go_enter Tryz.func125, Tryz.ntmps125
  go_wp2_with fail
  rw [← HW1.out]
  refine hof.mono ?_
  rintro e w2 ⟨rfl, q2⟩
  clear hof HW1
  show _
  unfold zeroTerm
  go_wp2_with fail
  refine wp_region_later (by kernel_rfl) (by kernel_rfl) ?_
  repeat (go_big_quiet_step (fail))
  refine wpQuiet_nil ?_
  intro _ hw'
  obtain ⟨x, hw''⟩ := hw'
  subst hw''
  go_wp2
  go_ret2
  have q3 := (Below.refl w2.heap.size w2).alloc (Nat.le_refl _) (.cells #[.int .i64 0, .int .i64 0, .string ⟨#[]⟩, .slice none 0 0] 181)
  exact ⟨rfl, Below.step (Below.step (Below.step q1 q2) q3) x.h⟩

set_option maxRecDepth 100000 in
set_option maxHeartbeats 4000000 in
theorem openT_none (w : World) (base p n : Nat) (T : List Node) (k : Nat) (hp : TermPrim w base p n T k) (hlen : T.length ≤ 60000) (key nonce ad : ByteArray) (sealed : List UInt8) (hsl : sealed.length ≤ 9223372036854775807) (hm : numOf T.length sealed = none) :
    Calls Tryz.prog 11 #[.pointer (some ⟨p, 0, none⟩), .string key, .string nonce, .string ad, .string (bs sealed)] w fun e w' => e = .returned (.tuple #[.string ⟨#[]⟩, .int .i64 10]) ∧ Below w.heap.size w w' := by
  have h := noneT_any w base p n T k hp
  obtain ⟨t, M, hM, hb, hbp, hP, hT⟩ := hp
  have hs := symOpen_none w base t M T k hT hlen key nonce ad sealed hsl hm
  obtain ⟨j', xs, hB, hJ, hne⟩ := hP
  have hc' : w.cell? ⟨p, 1, none⟩ = some (.iface 78 (.agg #[.pointer (some ⟨t, 0, none⟩)])) := hB.cell 1
  clear hB hJ hne hm hT
  go_enter Tryz.func11, Tryz.ntmps11
  go_wp2_with fail
  refine h.mono ?_
  rintro e w' ⟨rfl, hw⟩
  rw [hw]
  clear hw w' h
  go_wp2_with fail
  rw [meetsT_open]
  go_wp2_with fail
  refine hs.mono ?_
  rintro e w2 ⟨rfl, q2⟩
  clear hs hc'
  go_wp2
  go_ret2
  exact ⟨rfl, q2⟩
end Go.Proofs.YtipehnojibdfeaaGreat

/- RecordTurned: the loop over the frames that are tried. -/
namespace Go.Proofs.YtipehnojibdfeaaGreat
open Go Go.Proofs Go.RowKit

/-- a slice of texts at the head of a block -/
def StrBlk (w : World) (A : Option Addr) (l : List ByteArray) : Prop := ∃ g cs, A = some ⟨g, 0, none⟩ ∧ Blk w g 9 cs ∧ ∀ (j : Nat) b, l[j]? = some b → cs[j]? = some (.string b)

set_option maxRecDepth 100000 in
set_option maxHeartbeats 8000000 in
theorem turned_loop (w : World) (base p n q2 m c : Nat) (A : Option Addr) (bads : List ByteArray) (hm : Hid (m = bads.length)) (hrow : StrBlk w A bads) (hsz : ∀ b ∈ bads, b.size ≤ 16424) (hp : RealP w base p n) (hn : n ≤ 1000) (hm3 : m ≤ 10) (hb : base ≤ w.heap.size) (hbp : base ≤ p) (hbq : base ≤ q2) (hq : Blk w q2 67 (recCells p key2 0 key1 0)) (F H : Nat → Int) (hT : ∀ W, Below base w W → Tabs W F H)
    {c0 c1 c2 c3 c4 c5 i6 c8 c10 c11 c12 c14 i16 i17 i18 i19 i20 c21 c22 c23 c24 c25 c26 c27 c28 c29 c30 c31 c32 c33 c34 c35 c36 c37 c38 c39 c40 c41 c42 c43 c44 c45 c46 c47 c48 c49 c50 c51 c52 c53 c54 c55 c56 c57 c58 c59 c60 c61 c62 c63 c64 c65 c66 c67 c68 c69 c70 c71 c72 c73 c74 c75 c76 c77 c78 c79 c80 c81 c82 c83 c84 c85 c86 c87 c88 i89 i90 i91 i92 i93 i94 i95 i96 i97 i98 i99 i100 i101 i102 i103 i104 i105 i106 i107 i108 i109 i110 i111 i112 i113 i114 i115 i116 i117 i118 i119 i120 i121 i122 i123 i124 i125 i126 i127 i128 i129 i130 i131 i132 i133 i134 i135 i136 i137 i138 i139 c140 c141 c142 c143 c144 c145 c146 c147 c148 c149 c150 c151 c152 c153 c154 c155 : Value}
    (Q : Exit → Act → World → Prop) (hQ : ∀ (u6 u15 u16 u17 u18 u19 u20 u89 u90 u91 u92 u93 u94 u95 u96 u97 u98 u99 u100 u101 u102 u103 u104 u105 u106 u107 u108 u109 u110 u111 u112 u113 u114 u115 u116 u117 u118 u119 u120 u121 u122 u123 u124 u125 u126 u127 u128 u129 u130 u131 u132 u133 u134 u135 u136 u137 u138 u139 : Value) (w' : World), (∃ n', n' ≤ n + 2 * m ∧ RealP w' base p n') ∧ Blk w' q2 67 (recCells p key2 0 key1 0) ∧ Below base w w' → Q .normal ⟨(c0 :: c1 :: c2 :: c3 :: c4 :: c5 :: u6 :: .pointer (some ⟨p, 0, none⟩) :: c8 :: .pointer (some ⟨q2, 0, none⟩) :: c10 :: c11 :: c12 :: .slice A m c :: c14 :: u15 :: u16 :: u17 :: u18 :: u19 :: u20 :: c21 :: c22 :: c23 :: c24 :: c25 :: c26 :: c27 :: c28 :: c29 :: c30 :: c31 :: c32 :: c33 :: c34 :: c35 :: c36 :: c37 :: c38 :: c39 :: c40 :: c41 :: c42 :: c43 :: c44 :: c45 :: c46 :: c47 :: c48 :: c49 :: c50 :: c51 :: c52 :: c53 :: c54 :: c55 :: c56 :: c57 :: c58 :: c59 :: c60 :: c61 :: c62 :: c63 :: c64 :: c65 :: c66 :: c67 :: c68 :: c69 :: c70 :: c71 :: c72 :: c73 :: c74 :: c75 :: c76 :: c77 :: c78 :: c79 :: c80 :: c81 :: c82 :: c83 :: c84 :: c85 :: c86 :: c87 :: c88 :: u89 :: u90 :: u91 :: u92 :: u93 :: u94 :: u95 :: u96 :: u97 :: u98 :: u99 :: u100 :: u101 :: u102 :: u103 :: u104 :: u105 :: u106 :: u107 :: u108 :: u109 :: u110 :: u111 :: u112 :: u113 :: u114 :: u115 :: u116 :: u117 :: u118 :: u119 :: u120 :: u121 :: u122 :: u123 :: u124 :: u125 :: u126 :: u127 :: u128 :: u129 :: u130 :: u131 :: u132 :: u133 :: u134 :: u135 :: u136 :: u137 :: u138 :: u139 :: c140 :: c141 :: c142 :: c143 :: c144 :: c145 :: c146 :: c147 :: c148 :: c149 :: c150 :: c151 :: c152 :: c153 :: c154 :: c155 :: []).toArray, []⟩ w') :
    (codeBlock 0 Tryz.f4).wp Tryz.prog Q ⟨(c0 :: c1 :: c2 :: c3 :: c4 :: c5 :: i6 :: .pointer (some ⟨p, 0, none⟩) :: c8 :: .pointer (some ⟨q2, 0, none⟩) :: c10 :: c11 :: c12 :: .slice A m c :: c14 :: .int .i64 0 :: i16 :: i17 :: i18 :: i19 :: i20 :: c21 :: c22 :: c23 :: c24 :: c25 :: c26 :: c27 :: c28 :: c29 :: c30 :: c31 :: c32 :: c33 :: c34 :: c35 :: c36 :: c37 :: c38 :: c39 :: c40 :: c41 :: c42 :: c43 :: c44 :: c45 :: c46 :: c47 :: c48 :: c49 :: c50 :: c51 :: c52 :: c53 :: c54 :: c55 :: c56 :: c57 :: c58 :: c59 :: c60 :: c61 :: c62 :: c63 :: c64 :: c65 :: c66 :: c67 :: c68 :: c69 :: c70 :: c71 :: c72 :: c73 :: c74 :: c75 :: c76 :: c77 :: c78 :: c79 :: c80 :: c81 :: c82 :: c83 :: c84 :: c85 :: c86 :: c87 :: c88 :: i89 :: i90 :: i91 :: i92 :: i93 :: i94 :: i95 :: i96 :: i97 :: i98 :: i99 :: i100 :: i101 :: i102 :: i103 :: i104 :: i105 :: i106 :: i107 :: i108 :: i109 :: i110 :: i111 :: i112 :: i113 :: i114 :: i115 :: i116 :: i117 :: i118 :: i119 :: i120 :: i121 :: i122 :: i123 :: i124 :: i125 :: i126 :: i127 :: i128 :: i129 :: i130 :: i131 :: i132 :: i133 :: i134 :: i135 :: i136 :: i137 :: i138 :: i139 :: c140 :: c141 :: c142 :: c143 :: c144 :: c145 :: c146 :: c147 :: c148 :: c149 :: c150 :: c151 :: c152 :: c153 :: c154 :: c155 :: []).toArray, []⟩ w := by
  conv => arg 2; whnf
  go_wp2_with fail
  go_loopw [15] (fun i wr => ∃ k : Nat, k ≤ m ∧ i = .int .i64 k ∧ (∃ n', n' ≤ n + 2 * k ∧ RealP wr base p n') ∧ Blk wr q2 67 (recCells p key2 0 key1 0) ∧ StrBlk wr A bads ∧ Below base w wr) (fun i _ => m - (intOf i).toNat)
  case atStart => exact ⟨0, by omega, rfl, ⟨n, by omega, hp⟩, hq, hrow, Below.refl _ _⟩
  case round =>
    clear hrow hp hq
    obtain ⟨k, hk, rfl, ⟨n', hn', hp⟩, hq, hrow, hbw⟩ := hrel
    by_cases hkm : k < m
    · have hkd : decide ((k : Int) < (m : Int)) = true := by simp; omega
      have hkl : k < bads.length := by have := hm.out; omega
      obtain ⟨bad, hbad⟩ : ∃ bad, bad = bads[k] := ⟨_, rfl⟩
      have hbs : bad.size ≤ 16424 := by rw [hbad]; exact hsz _ (List.getElem_mem hkl)
      obtain ⟨g, cs, rfl, hgb, hgc⟩ := hrow
      have hck := hgc k bad (by rw [hbad]; exact List.getElem?_eq_getElem hkl)
      have Z0 : wr.drew.cell? ⟨g, k, none⟩ = some (.string bad) := (hgb.cell k).trans hck
      have hTr : Tabs wr.drew F H := hT wr hbw
      have hcopy := recCopy_any wr.drew q2 p p 0 0 key2 key1 hq.drew
      have hsz1 : key1.size = 32 := by unfold key1; rw [bs_size]; rfl
      have hbr : base ≤ wr.heap.size := Nat.le_trans hb hbw.size
      have hpd : RealP wr.drew base p n' := hp
      clear hbad hkl
      rcases recTakeR_gen key1 bad hsz1 hbs F H with ⟨er, her0, herx, htk⟩ | ⟨h8, out, hol, hfe, htk⟩
      · have he : (er == 0) = false := by rw [beq_eq_false_iff_ne]; exact her0
        go_wp2_with fail
        go_region_held3 (fun w' => w'.cell? ⟨g, k, none⟩ = some (.string bad)) (first | (with_reducible exact Z0) | (with_reducible exact Y0) | (with_reducible exact X0))
          (first
            | (go_at_call 15; refine (htk wC base p n' _ 0 key2 hpC (by omega) (Nat.le_trans hbr bC.size) hbp hbr hcC (hTr.later bC)).mono ?_; rintro e wE ⟨rfl, bE⟩; have X0 : wE.cell? ⟨g, k, none⟩ = some (.string bad) := Below.cell_some bE Y0)
            | (go_at_call 14; refine hcopy.mono ?_; rintro e wC ⟨rfl, hcC, bC⟩; have Y0 : wC.cell? ⟨g, k, none⟩ = some (.string bad) := Below.cell_some bC Z0; have hpC := hpd.later bC))
        have bE2 : Below wr.heap.size wr wE := (show Below wr.heap.size wr wC from ⟨bC.os, bC.tape, bC.output, bC.size, bC.block⟩).trans (bE.mono bC.size)
        go_wp2
        go_roundw
        case rel =>
          exact ⟨k + 1, by omega, by go_num, ⟨n', by omega, hp.later bE2⟩, hq.later bE2, ⟨g, cs, rfl, hgb.later bE2, hgc⟩, hbw.trans (bE2.mono hbr)⟩
        case measure => simp [intOf]; omega
      · have HFE : Hid (bad = bs (bad.data.toList.take 8 ++ sealF F H key1.data.toList (bad.data.toList.take 8) (bad.data.toList.take 8) out)) := hfe
        clear hfe
        have h8i : (8 : Int) ≤ (bad.size : Int) := by omega
        have h8d : decide ((bad.size : Int) < 8) = false := by rw [decide_eq_false_iff_not]; omega
        have hgl := hgb.lt
        go_wp2_with fail
        go_region_held3 (fun w' => w'.cell? ⟨g, k, none⟩ = some (.string bad)) (first | (with_reducible exact Z0) | (with_reducible exact Y0) | (with_reducible exact X0))
          (first
            | (go_at_call 15; refine (htk wC base p n' _ 0 key2 hpC (by omega) (Nat.le_trans hbr bC.size) hbp hbr hcC (hTr.later bC)).mono ?_; rintro e wE ⟨rfl, hpE, hkE⟩; have hgE := hkE.2 g _ _ (by show g ≠ wr.heap.size; omega) hgC ⟨by decide, by decide, by decide, by decide⟩; have X0 : wE.cell? ⟨g, k, none⟩ = some (.string bad) := (hgE.cell k).trans hck)
            | (go_at_call 14; refine hcopy.mono ?_; rintro e wC ⟨rfl, hcC, bC⟩; have hgC := hgb.drew.later bC; have Y0 : wC.cell? ⟨g, k, none⟩ = some (.string bad) := Below.cell_some bC Z0; have hpC := hpd.later bC))
        have hq2l := hq.lt
        have hqE := hkE.2 q2 _ _ (by show q2 ≠ wr.heap.size; omega) (hq.drew.later bC) ⟨by decide, by decide, by decide, by decide⟩
        have bE2 : Below base wr wE := (show Below base wr wC from (show Below wr.heap.size wr wC from ⟨bC.os, bC.tape, bC.output, bC.size, bC.block⟩).mono hbr).trans hkE.1
        have hbE := hbw.trans bE2
        have hk1 := key15_any wE 1 (by omega)
        clear Z0 Y0 hcopy htk hcC hgC hpC bC hkE hpd hgb hq hp hTr
        go_wp2_with fail
        refine hk1.mono ?_
        rintro e wF ⟨rfl, bF⟩
        clear hk1
        have hkey : (bs (List.replicate 32 (Nat.toUInt8 1))) = key1 := rfl
        rw [hkey]
        have hbE2 : base ≤ wE.heap.size := Nat.le_trans hb hbE.size
        have hbF := hbE.trans (bF.mono hbE2)
        have hexs : (bad.extract 0 8).size ≤ 16384 := by simp [ByteArray.size_extract]; omega
        have hsl := sealReal2_any wF base p (n' + 1) (hpE.later bF) (by omega) (Nat.le_trans hb hbF.size) hbp key1 (bad.extract 0 8) (bad.extract 0 8) (bs out) hsz1 hexs hexs (by rw [bs_size]; exact hol) F H (hT wF hbF)
        obtain ⟨again, hag⟩ : ∃ again, again = bs (sealF F H key1.data.toList (bad.extract 0 8).data.toList (bad.extract 0 8).data.toList (bs out).data.toList) := ⟨_, rfl⟩
        rw [← hag] at hsl
        have hex : (bad.extract 0 8).data.toList = bad.data.toList.take 8 := by
          have := frame_parts (bad.data.toList.take 8) (sealF F H key1.data.toList (bad.data.toList.take 8) (bad.data.toList.take 8) out) (by rw [List.length_take]; show min 8 bad.size = 8; omega)
          rw [← HFE.out] at this
          rw [this.1]; rfl
        have HSUM : Hid (bad.extract 0 8 ++ again = bad) := by
          show _ = _
          rw [hag, hex]
          have h1 : bad.extract 0 8 = bs (bad.data.toList.take 8) := by rw [← hex]; rfl
          rw [h1, bs_append, bs_list]
          exact HFE.out.symm
        have hgs : (bad.extract 0 8).size + again.size ≤ 9223372036854775807 := by rw [← ByteArray.size_append, HSUM.out]; omega
        have hadd := fun W => run_string_add_sum (P := Tryz.prog) W (bad.extract 0 8) again hgs
        have hgF := hgE.later bF
        have hqF := hqE.later bF
        clear hag hex HFE hpE hgE hqE
        go_wp2_with fail
        refine hsl.mono ?_
        rintro e wG ⟨rfl, hpG, bG, fG⟩
        clear hsl
        have hgG := hgF.far_ fG (by exact ⟨by decide, by decide⟩)
        have hqG := hqF.far_ fG (by exact ⟨by decide, by decide⟩)
        have ZG : wG.cell? ⟨g, k, none⟩ = some (.string bad) := (hgG.cell k).trans hck
        have hcmp : ((bad.extract 0 8 ++ again).toList == bad.toList) = true := by rw [HSUM.out]; exact beq_self_eq_true _
        have hcmp2 : ((bad.extract 0 8 ++ again).toList != bad.toList) = false := by rw [bne, hcmp]; rfl
        go_wp2_with fail
        exact ⟨⟨k + 1, by omega, by go_num, ⟨n' + 1 + 1, by omega, hpG⟩, hqG, ⟨g, cs, rfl, hgG, hgc⟩, hbF.trans bG⟩, by simp [intOf]; omega⟩
    · have hkd : decide ((k : Int) < (m : Int)) = false := by simp; omega
      obtain rfl : k = m := by omega
      go_wp2
      exact ⟨⟨n', hn', hp⟩, hq, hbw⟩
end Go.Proofs.YtipehnojibdfeaaGreat

/- RecordTurned: the walk. -/
namespace Go.Proofs.YtipehnojibdfeaaGreat
open Go Go.Proofs Go.RowKit

theorem turn_place (a : Int) (n : Nat) (h : 0 < n) (hn : n ≤ 1000) : ∃ k : Nat, k < n ∧ (wrap64 (a.tmod n + n)).tmod n = (k : Int) := by
  have h1 := Int.tmod_lt_of_pos a (show (0 : Int) < n by omega)
  have h2 := Int.lt_tmod_of_pos a (show (0 : Int) < n by omega)
  have hw : wrap64 (a.tmod n + n) = a.tmod n + n := by simp only [wrap64]; omega
  rw [hw]
  have h3 := Int.tmod_nonneg (n : Int) (show 0 ≤ a.tmod n + n by omega)
  have h4 := Int.tmod_lt_of_pos (a.tmod n + n) (show (0 : Int) < n by omega)
  exact ⟨((a.tmod n + n).tmod n).toNat, by omega, by omega⟩
theorem Tryz.infoStrR : (Tryz.prog.info? 9).map (fun i => (i.zero, i.size, i.bytes)) = some (some (.string ⟨#[]⟩), 1, 16) := by kernel_rfl
theorem strBlk_of_own {w : World} {base n c : Nat} {A : Option Addr} {l : List ByteArray} (h : w.ownsRow base 9 1 (.slice A n c) n (l.map Value.string)) (hn : 0 < n) : StrBlk w A l := by
  rcases h.2 with ⟨h1, h2⟩ | ⟨g, cap, cur, hv, _, hh, _, _, _, ht⟩
  · omega
  · injection hv with hA _ _
    refine ⟨g, cur, hA, hh, fun j b hj => ?_⟩
    have hjl : j < n := by
      have h1 : j < l.length := (List.getElem?_eq_some_iff.1 hj).1
      have := h.1
      rw [List.length_map] at this
      omega
    have h2 : (cur.toList.take (n * 1))[j]? = some (.string b) := by rw [ht, List.getElem?_map, hj]; rfl
    rw [List.getElem?_take, if_pos (by omega)] at h2
    simpa using h2
/-- the bytes of a text, with one byte stored -/
theorem bytesWorld_below (w : World) (e : TypeId) (s : ByteArray) : Below w.heap.size w (Lib.bytesWorld w e s) :=
  ⟨rfl, rfl, rfl, by rw [Lib.bytesWorld_size]; omega, fun i hi => Lib.bytesWorld_at_old w e s i hi⟩
theorem bytesWorld_set (w : World) (e : TypeId) (s : ByteArray) (k : Nat) (r : Int) (hr : 0 ≤ r ∧ r < 256) (j : Nat) (hj : j < (s.data.toList.set k r.toNat.toUInt8).length) :
    ((Lib.bytesWorld w e s).setCell ⟨w.heap.size, k, none⟩ (.int .u8 r)).cell? ⟨w.heap.size, j, none⟩ = some (.int .u8 ((s.data.toList.set k r.toNat.toUInt8)[j].toNat : Int)) := by
  have hn := Lib.bytesWorld_at_new w e s
  have hh : ((Lib.bytesWorld w e s).setCell ⟨w.heap.size, k, none⟩ (.int .u8 r)).heap[w.heap.size]? = some (.cells ((Lib.bytesCells w e s).setIfInBounds k (.int .u8 r)) e ((Lib.bytesCells w e s).size, (Lib.bytesCells w e s).size + 1)) := by
    simp [World.setCell, Array.getElem?_modify, hn]
  rw [cell_of_row _ _ j _ _ _ hh]
  rw [List.length_set] at hj
  have hj' : j < s.size := hj
  have hc : j < (Lib.bytesCells w e s).size := by simp [Lib.bytesCells]; omega
  rw [Array.getElem?_setIfInBounds]
  by_cases hkj : k = j
  · subst hkj
    have e1 : ((r.toNat.toUInt8).toNat : Int) = r := by
      rw [u8_of_nat _ (by omega)]; omega
    rw [if_pos rfl, if_pos hc, List.getElem_set_self, e1]
  · have hjd : j < s.data.size := hj'
    rw [if_neg hkj, List.getElem_set_ne hkj]
    simp only [Lib.bytesCells, Array.getElem?_append, Array.size_map]
    rw [if_pos hjd, Array.getElem?_map, Array.getElem?_eq_getElem hjd]
    rfl
theorem bytesWorld_free (w : World) (e : TypeId) (s : ByteArray) (j : Nat) (hj : j < s.size) : (Lib.bytesWorld w e s).frozen? ⟨w.heap.size, j, none⟩ = false := by
  have hn := Lib.bytesWorld_at_new w e s
  have hc : j < (Lib.bytesCells w e s).size := by simp [Lib.bytesCells]; omega
  simp [World.frozen?, hn]
  omega
/-- the frames that are tried: cut, longer, turned -/
def badsL (f : ByteArray) (k : Nat) (sT : ByteArray) (by_ : Nat) : List (List UInt8) := [f.data.toList.take k, f.data.toList ++ [120]] ++ (if by_ = 0 then [] else [sT.data.toList])

set_option maxRecDepth 100000 in
set_option maxHeartbeats 8000000 in
theorem recordTurned_any (w : World) (text : ByteArray) (at_ : Int) (by_ : Nat) (htx : text.size ≤ 9223372036854775807) (ha : -9223372036854775808 ≤ at_ ∧ at_ ≤ 9223372036854775807) (hby : by_ < 256) (F H : Nat → Int) (hT : Tabs w F H) :
    Calls Tryz.prog 4 #[.string text, .int .i64 at_, .int .u8 (by_ : Int)] w fun e w' => e = .returned (.bool true) ∧ Below w.heap.size w w' := by
  have hbo := bothReal_any w
  obtain ⟨L, hL⟩ : ∃ L : Nat, L = min text.size 100 := ⟨_, rfl⟩
  have hmin : min (text.size : Int) 100 = (L : Int) := by omega
  have hL1 : L ≤ text.size := by omega
  have hL2 : L ≤ 100 := by omega
  obtain ⟨tx, htxe⟩ : ∃ tx, tx = text.extract 0 L := ⟨_, rfl⟩
  have htxs : tx.size = L := by rw [htxe]; simp [ByteArray.size_extract]; omega
  have HTX : Hid (tx = text.extract 0 L) := htxe
  have HTXS : Hid (tx.size = L) := htxs
  have htb : tx.size ≤ 100 := by omega
  clear hL htxs htxe
  go_enter Tryz.func4, Tryz.ntmps4
  go_wp2_with fail
  refine hbo.mono ?_
  rintro e w1 ⟨p, q1, q2, rfl, hp0, hp1, hp2, hP1, hq1, hq2, b1⟩
  clear hbo
  have hT1 := hT.later b1
  have hs := recSealR w1 w.heap.size p 0 q1 0 0 key1 key2 tx hP1 (by omega) b1.size hp0 (by omega) hq1 (by omega) (by unfold key1; rw [bs_size]; rfl) (by omega) F H hT1
  obtain ⟨S, hS⟩ : ∃ S, S = sealF F H key1.data.toList (num8 1) (num8 1) tx.data.toList := ⟨_, rfl⟩
  have HS : Hid (S = sealF F H key1.data.toList (num8 1) (num8 1) tx.data.toList) := hS
  have hSl : S.length = tx.size + 32 := by rw [hS, sealF_length]; rfl
  obtain ⟨f, hf⟩ : ∃ f, f = bs (num8 1 ++ S) := ⟨_, rfl⟩
  have hfs : f.size = 40 + tx.size := by rw [hf, bs_size, List.length_append, num8_length, hSl]; omega
  have HF : Hid (f = bs (num8 1 ++ S)) := hf
  have HFS : Hid (f.size = 40 + tx.size) := hfs
  have hkd : ((f.size : Int) != 8 + (tx.size : Int) + 32) = false := by rw [bne_eq_false_iff_eq]; omega
  have hf1 : 40 ≤ f.size := by omega
  have hf2 : f.size ≤ 140 := by omega
  rw [← hS, ← hf] at hs
  clear hS hf hfs hSl
  go_wp2_with fail
  rw [← HTX.out]
  refine hs.mono ?_
  rintro e w2 ⟨rfl, hP2, hq1', hk2⟩
  clear hs
  have hq2' := hk2.2 _ _ _ (by omega) hq2 ⟨by decide, by decide, by decide, by decide⟩
  have b2 : Below w.heap.size w w2 := b1.trans hk2.1
  clear hq1' hq1 hq2 hP1 hk2 b1 hT1
  obtain ⟨kk, hkk, hkke⟩ := turn_place at_ f.size (by omega) (by omega)
  have hadd := fun W => run_string_add_sum (P := Tryz.prog) W f ⟨#[120]⟩ (by show f.size + 1 ≤ _; omega)
  have hkki : (kk : Int) < (f.size : Int) := by omega
  have hex0 : (f.extract 0 kk).size ≤ 16424 := by simp [ByteArray.size_extract]; omega
  have hex1 : (f ++ ⟨#[120]⟩).size ≤ 16424 := by rw [ByteArray.size_append]; show f.size + 1 ≤ _; omega
  by_cases hy : by_ = 0
  · have hy0 : ((by_ : Int) != 0) = false := by rw [bne_eq_false_iff_eq]; omega
    go_upto_block 0 with (fail)
    obtain ⟨wE, hwE⟩ : ∃ wE, wE = w2.alloc (.cells #[.string (f.extract 0 kk), .string (f ++ ⟨#[120]⟩)] 9) := ⟨_, rfl⟩
    rw [← hwE]
    have bE2 : Below w2.heap.size w2 wE := by rw [hwE]; exact (Below.refl _ _).alloc (Nat.le_refl _) _
    have hrow : StrBlk wE (some ⟨w2.heap.size, 0, none⟩) [f.extract 0 kk, f ++ ⟨#[120]⟩] := by
      rw [hwE]
      exact strBlk_of_own (World.ownsRow_lit (size := 1) w2 #[.string (f.extract 0 kk), .string (f ++ ⟨#[120]⟩)] 2 (Nat.le_refl _) (by unfold maxLen; omega) rfl) (by omega)
    clear hwE
    have hbE : Below w.heap.size w wE := b2.trans (bE2.mono b2.size)
    have hPE := hP2.later bE2
    have hqE := hq2'.later bE2
    clear hy0 hy hadd bE2 hkki hkke
    refine turned_loop wE w.heap.size p (0 + 1) q2 2 2 (some ⟨w2.heap.size, 0, none⟩) [f.extract 0 kk, f ++ ⟨#[120]⟩] (show _ = _ from rfl) hrow (by intro b hb; simp only [List.mem_cons, List.not_mem_nil, or_false] at hb; rcases hb with rfl | rfl; exact hex0; exact hex1) hPE (by omega) (by omega) hbE.size hp0 (by omega) hqE F H (fun W hW => hT.later (hbE.trans hW)) _ ?_
    intros
    rename_i wL hL
    obtain ⟨⟨n', hn', hPL⟩, hqL, bL⟩ := hL
    have b3 := hbE.trans bL
    have hTL := hT.later b3
    clear hrow hPE hqE hex0 hex1
    obtain ⟨g1, g2, g3⟩ := frame_parts (num8 1) S (num8_length 1)
    rw [← HF.out] at g1 g2 g3
    have ht := recTakeR_yes wL w.heap.size p n' q2 0 0 key2 key1 f tx hPL (by omega) b3.size hp0 (by omega) hqL (by omega) (by omega) (by rw [g3, r5]; omega) (fun x => by
      rw [g1, g2, HS.out]
      exact hopR key1 (by unfold key1; rw [bs_size]; rfl) (num8 1) tx.data.toList (num8_length 1) (by show tx.size ≤ _; omega) F H x.v (hTL.later x.h))
    have k4 : (tx.toList == tx.toList) = true := beq_self_eq_true _
    clear g1 g2 g3
    go_wp2_with fail
    refine ht.mono ?_
    rintro e w3 ⟨rfl, hP3, hq2'', hk3⟩
    clear ht
    have b4 : Below w.heap.size w w3 := b3.trans hk3.1
    have hwk := works15_any w3 F H (hT.later b4)
    go_wp2_with fail
    refine hwk.mono ?_
    rintro e w5 ⟨rfl, b5⟩
    clear hwk
    have b6 := b4.trans (b5.mono b4.size)
    go_wp2
    go_ret
    exact ⟨rfl, b6⟩
  · have hy0 : ((by_ : Int) != 0) = true := by rw [bne_iff_ne]; omega
    obtain ⟨wA, hwA⟩ : ∃ wA, wA = w2.alloc (.cells #[.string (f.extract 0 kk), .string (f ++ ⟨#[120]⟩)] 9) := ⟨_, rfl⟩
    have hcv := Lib.run_convert_string_bytes (P := Tryz.prog) (w2.alloc (.cells #[.string (f.extract 0 kk), .string (f ++ ⟨#[120]⟩)] 9)) 9 30 5 f Tryz.underlying9 Tryz.underlying30 Tryz.underlying5
    have hsA : (w2.alloc (.cells #[.string (f.extract 0 kk), .string (f ++ ⟨#[120]⟩)] 9)).heap.size = w2.heap.size + 1 := by rw [World.size_alloc]
    have bB := bytesWorld_below wA 5 f
    have Cb := Lib.bytesWorld_cell wA 5 f kk (by omega)
    have Fb := bytesWorld_free wA 5 f kk (by omega)
    have hset := bytesWorld_set wA 5 f kk
    obtain ⟨cB, hcB⟩ : ∃ cB, cB = grownCap (w2.alloc (.cells #[.string (f.extract 0 kk), .string (f ++ ⟨#[120]⟩)] 9)) f.size 0 5 := ⟨_, rfl⟩
    rw [← hcB] at hcv
    clear hcB
    obtain ⟨by0, hby0⟩ : ∃ b : Nat, b = (f.data.toList.getD kk 0).toNat := ⟨_, rfl⟩
    rw [← hby0] at Cb
    have hby1 : by0 < 256 := by rw [hby0]; exact (f.data.toList.getD kk 0).toNat_lt
    clear hby0
    obtain ⟨wB, hwB⟩ : ∃ wB, wB = Lib.bytesWorld wA 5 f := ⟨_, rfl⟩
    rw [← hwB] at bB Cb Fb hset
    rw [hsA, ← hwA, ← hwB] at hcv
    rw [hwA] at hcv Cb Fb hset
    rw [hsA] at Cb Fb hset
    have HWA : Hid (wA = w2.alloc (.cells #[.string (f.extract 0 kk), .string (f ++ ⟨#[120]⟩)] 9)) := hwA
    clear hwA hwB hsA
    obtain ⟨xr, hxr⟩ : ∃ xr, xr = xor8 (by0 : Int) (by_ : Int) := ⟨_, rfl⟩
    have hxr1 : 0 ≤ xr ∧ xr < 256 := by rw [hxr]; exact xor8_in _ _
    obtain ⟨lt, hlt⟩ : ∃ lt, lt = f.data.toList.set kk xr.toNat.toUInt8 := ⟨_, rfl⟩
    have hltl : lt.length = f.size := by rw [hlt, List.length_set]; rfl
    have hset2 := hset xr hxr1
    rw [← hlt] at hset2
    have hcv2 := run_convert_bytes_back (P := Tryz.prog) (wB.setCell ⟨w2.heap.size + 1, kk, none⟩ (.int .u8 xr)) 30 9 5 ⟨w2.heap.size + 1, 0, none⟩ cB lt Tryz.underlying30 Tryz.underlying5 Tryz.underlying9 (fun j hj => by rw [addr_add, Nat.zero_add]; exact hset2 j hj)
    rw [hltl] at hcv2
    have HLT : Hid (lt.length = f.size) := hltl
    have bC : Below w2.heap.size w2 (wB.setCell ⟨w2.heap.size + 1, kk, none⟩ (.int .u8 xr)) := by
      have h1 : Below w2.heap.size w2 wA := by rw [HWA.out]; exact (Below.refl _ _).alloc (Nat.le_refl _) _
      exact (h1.trans (bB.mono h1.size)).setCell (by show w2.heap.size ≤ w2.heap.size + 1; omega) _
    have hown : (wB.setCell ⟨w2.heap.size + 1, kk, none⟩ (.int .u8 xr)).ownsRow w2.heap.size 9 1 (.slice (some ⟨w2.heap.size, 0, none⟩) 2 2) 2 (([f.extract 0 kk, f ++ ⟨#[120]⟩] : List ByteArray).map Value.string) := by
      have h1 : wA.ownsRow w2.heap.size 9 1 (.slice (some ⟨w2.heap.size, 0, none⟩) 2 2) 2 (([f.extract 0 kk, f ++ ⟨#[120]⟩] : List ByteArray).map Value.string) := by
        rw [HWA.out]
        exact World.ownsRow_lit (size := 1) w2 #[.string (f.extract 0 kk), .string (f ++ ⟨#[120]⟩)] 2 (Nat.le_refl _) (by unfold maxLen; omega) rfl
      exact (ownsRow_later h1 bB).kept (grownBy_set (grownBy_refl _ _) _) (.inr (by simp [Value.ownBlock]))
    clear hset hset2 hlt hltl hxr1
    go_upto_region 13 with (fail)
    rw [show bits BinOp.xor IntKind.u8 (by0 : Int) (by_ : Int) = xr from hxr.symm]
    generalize (wB.setCell ⟨w2.heap.size + 1, kk, none⟩ (.int .u8 xr)) = wC at hcv2 bC hown ⊢
    clear hxr hcv Cb Fb bB hby1 HWA
    obtain ⟨iS, hi, hz0, hz1, hz2⟩ := info_parts Tryz.infoStrR
    go_upto_block 0 with (at_builtin; refine wpList_append_own _ rfl _ _ 38 rfl w2.heap.size 9 iS (.string ⟨#[]⟩) 1 16 Tryz.underlying38 hi hz0 hz1 hz2 rfl (by decide) _ _ _ rfl (hown.alloc _) ⟨wC.heap.size, 0, none⟩ 1 1 [.string ⟨lt.toArray⟩] rfl rfl (by intro j u hj; match j, hj with | 0, hj => simp at hj; subst hj; simp [Addr.add]) (by intro u hu; simp at hu; subst hu; rfl) (by unfold maxLen; omega) (by omega) (by have := bC.size; simp; omega) ?_; intro v' wE hown' hgrow _; obtain ⟨A, c, hv2⟩ := ownsRow_slice hown'; subst hv2)
    have bE2 : Below w2.heap.size w2 wE := (bC.alloc bC.size _).grown hgrow (by have := bC.size; simp; omega) (by intro k hk; have h : some w2.heap.size = some k := hk; injection h with h; omega)
    have hrow : StrBlk wE A [f.extract 0 kk, f ++ ⟨#[120]⟩, ⟨lt.toArray⟩] := strBlk_of_own hown' (by omega)
    have hltz : (⟨lt.toArray⟩ : ByteArray).size ≤ 16424 := by have := HLT.out; show lt.toArray.size ≤ _; simp; omega
    clear hown' hgrow hown hcv2 bC hi hz0 hz1 hz2
    have hbE : Below w.heap.size w wE := b2.trans (bE2.mono b2.size)
    have hPE := hP2.later bE2
    have hqE := hq2'.later bE2
    clear hy0 hy hadd bE2 hkki hkke
    refine turned_loop wE w.heap.size p (0 + 1) q2 3 c A [f.extract 0 kk, f ++ ⟨#[120]⟩, ⟨lt.toArray⟩] (show _ = _ from rfl) hrow (by intro b hb; simp only [List.mem_cons, List.not_mem_nil, or_false] at hb; rcases hb with rfl | rfl | rfl; exact hex0; exact hex1; exact hltz) hPE (by omega) (by omega) hbE.size hp0 (by omega) hqE F H (fun W hW => hT.later (hbE.trans hW)) _ ?_
    intros
    rename_i wL hL
    obtain ⟨⟨n', hn', hPL⟩, hqL, bL⟩ := hL
    have b3 := hbE.trans bL
    have hTL := hT.later b3
    clear hrow hPE hqE hex0 hex1
    obtain ⟨g1, g2, g3⟩ := frame_parts (num8 1) S (num8_length 1)
    rw [← HF.out] at g1 g2 g3
    have ht := recTakeR_yes wL w.heap.size p n' q2 0 0 key2 key1 f tx hPL (by omega) b3.size hp0 (by omega) hqL (by omega) (by omega) (by rw [g3, r5]; omega) (fun x => by
      rw [g1, g2, HS.out]
      exact hopR key1 (by unfold key1; rw [bs_size]; rfl) (num8 1) tx.data.toList (num8_length 1) (by show tx.size ≤ _; omega) F H x.v (hTL.later x.h))
    have k4 : (tx.toList == tx.toList) = true := beq_self_eq_true _
    clear g1 g2 g3
    go_wp2_with fail
    refine ht.mono ?_
    rintro e w3 ⟨rfl, hP3, hq2'', hk3⟩
    clear ht
    have b4 : Below w.heap.size w w3 := b3.trans hk3.1
    have hwk := works15_any w3 F H (hT.later b4)
    go_wp2_with fail
    refine hwk.mono ?_
    rintro e w5 ⟨rfl, b5⟩
    clear hwk
    have b6 := b4.trans (b5.mono b4.size)
    go_wp2
    go_ret
    exact ⟨rfl, b6⟩
end Go.Proofs.YtipehnojibdfeaaGreat
