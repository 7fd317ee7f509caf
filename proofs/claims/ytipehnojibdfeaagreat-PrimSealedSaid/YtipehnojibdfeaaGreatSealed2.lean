/- PrimSealed with the real kind. -/
import Derived.Test.YtipehnojibdfeaaGreatWorks
namespace Go.Proofs.YtipehnojibdfeaaGreat
open Go Go.Proofs Go.RowKit

theorem sealF_take (F K : Nat → Int) (key nonce ad text : List UInt8) : (sealF F K key nonce ad text).take text.length = turnF F K key nonce text := by
  rw [sealF, List.take_append_of_le_length (by rw [turnF_length]; exact Nat.le_refl _), List.take_of_length_le (by rw [turnF_length]; exact Nat.le_refl _)]
theorem sealF_drop (F K : Nat → Int) (key nonce ad text : List UInt8) : (sealF F K key nonce ad text).drop text.length = tagF F K key ad nonce (turnF F K key nonce text) := by
  rw [sealF, List.drop_append_of_le_length (by rw [turnF_length]; exact Nat.le_refl _), List.drop_of_length_le (by rw [turnF_length]; exact Nat.le_refl _), List.nil_append]
theorem openPost_sealF (F K : Nat → Int) (key nonce ad text : List UInt8) : OpenPost F K key nonce ad ((sealF F K key nonce ad text).take text.length) ((sealF F K key nonce ad text).drop text.length) = .tuple #[.string (bs text), .int .i64 0] := by
  rw [sealF_take, sealF_drop, OpenPost, if_pos rfl, turnF_twice]
theorem openPost_bad (F K : Nat → Int) (key nonce ad text s : List UInt8) (ht : s.take text.length = (sealF F K key nonce ad text).take text.length) (hd : s.drop text.length ≠ (sealF F K key nonce ad text).drop text.length) : OpenPost F K key nonce ad (s.take text.length) (s.drop text.length) = .tuple #[.string ⟨#[]⟩, .int .i64 10] := by
  rw [OpenPost, ht, sealF_take]
  rw [sealF_drop] at hd
  rw [if_neg (fun e => hd e.symm)]
/-- .. with one byte of the tag turned -/
theorem openPost_turned (F K : Nat → Int) (key nonce ad text : List UInt8) (at_ : Nat) (x : UInt8) (h1 : text.length ≤ at_) (h2 : at_ < text.length + 32) (hx : (sealF F K key nonce ad text)[at_]? ≠ some x) :
    OpenPost F K key nonce ad (((sealF F K key nonce ad text).set at_ x).take text.length) (((sealF F K key nonce ad text).set at_ x).drop text.length) = .tuple #[.string ⟨#[]⟩, .int .i64 10] := by
  refine openPost_bad F K key nonce ad text _ ?_ ?_
  · apply List.ext_getElem?
    intro i
    rw [List.getElem?_take, List.getElem?_take]
    by_cases hi : i < text.length
    · rw [if_pos hi, if_pos hi, List.getElem?_set_ne (by omega)]
    · rw [if_neg hi, if_neg hi]
  · intro h
    have := congrArg (·[at_ - text.length]?) h
    simp only [List.getElem?_drop] at this
    rw [show text.length + (at_ - text.length) = at_ by omega, List.getElem?_set_self (by rw [sealF_length]; omega)] at this
    exact hx this.symm

set_option maxRecDepth 100000 in
set_option maxHeartbeats 2000000 in
/-- Open that is refused: nothing that was there is turned -/
theorem openReal_no (w : World) (base p n : Nat) (hp : RealPrim w base p n) (key nonce ad sealed out : ByteArray)
    (hopen : Calls Tryz.prog 62 #[.agg #[], .string key, .string nonce, .string ad, .string sealed] w fun e w' => e = .returned (.tuple #[.string out, .int .i64 10]) ∧ Below w.heap.size w w') :
    Calls Tryz.prog 11 #[.pointer (some ⟨p, 0, none⟩), .string key, .string nonce, .string ad, .string sealed] w fun e w' => e = .returned (.tuple #[.string out, .int .i64 10]) ∧ Below w.heap.size w w' := by
  obtain ⟨j, xs, hB, hJ, hne⟩ := hp
  have hnone := none_any w p j hB
  have C1 : w.cell? ⟨p, 1, none⟩ = some (.iface 75 (.agg #[])) := hB.cell 1
  clear hB hJ hne
  go_enter Tryz.func11, Tryz.ntmps11
  go_wp2_with fail
  refine hnone.mono ?_
  rintro e w' ⟨rfl, hw⟩
  rw [hw]
  clear hw w'
  go_wp2_with fail
  rw [meets_open]
  go_wp2_with fail
  refine hopen.mono ?_
  rintro e w2 ⟨rfl, c2⟩
  clear hnone hopen C1
  go_wp2
  go_ret2
  exact ⟨rfl, c2⟩

/-- the cells of a 'Keys' -/
structure KeysAre (K : Array Value) (terms : Bool) (A B : List UInt8) (nonce ad text : ByteArray) (at_ by_ : Nat) (other : Bool) (on oa : ByteArray) : Prop where
  size : K.size = 73
  c0 : K[0]? = some (.bool terms)
  lA : A.length = 32
  lB : B.length = 32
  cA : ∀ j (h : j < A.length), K[1 + j]? = some (.int .u8 (A[j].toNat : Int))
  cB : ∀ j (h : j < B.length), K[33 + j]? = some (.int .u8 (B[j].toNat : Int))
  c3 : K[65]? = some (.string nonce)
  c4 : K[66]? = some (.string ad)
  c5 : K[67]? = some (.string text)
  c6 : K[68]? = some (.int .u8 (at_ : Int))
  c7 : K[69]? = some (.int .u8 (by_ : Int))
  c8 : K[70]? = some (.bool other)
  c9 : K[71]? = some (.string on)
  c10 : K[72]? = some (.string oa)
  hat : at_ < 256
  hby : by_ < 256
theorem u8_key (y : Nat) (h : y < 256) : (y.toUInt8).toNat = y := by simp; omega
theorem keysInfo : (Tryz.prog.info? 24).map (·.size) = some 73 := by kernel_rfl
theorem conv32 {w : World} {g off : Nat} {t : TypeId} {K : Array Value} (hB : Blk w g t K) {L : List UInt8} (hL : L.length = 32) (hc : ∀ j (h : j < L.length), K[off + j]? = some (.int .u8 (L[j].toNat : Int))) :
    (convert 30 9 (.slice (some ⟨g, off, none⟩) 32 32)).run Tryz.prog w = .ok (.string (bs L)) w := by
  have h := run_convert_bytes_back (P := Tryz.prog) w 30 9 5 ⟨g, off, none⟩ 32 L Tryz.underlying30 Tryz.underlying5 Tryz.underlying9 (fun j hj => by
    rw [addr_add, hB.cell (off + j)]; exact hc j hj)
  rw [hL] at h
  exact h

set_option maxRecDepth 100000 in
set_option maxHeartbeats 8000000 in
theorem sealedReal_any (w : World) (K : Array Value) (A B : List UInt8) (nonce ad text : ByteArray) (at_ by_ : Nat) (other : Bool) (on oa : ByteArray) (hK : KeysAre K false A B nonce ad text at_ by_ other on oa) (F H : Nat → Int) (hT : Tabs w F H) :
    Calls Tryz.prog 3 #[.agg K] w fun e w' => e = .returned (.bool true) ∧ Below w.heap.size w w' := by
  obtain ⟨w1, hw1⟩ : ∃ w1, w1 = w.alloc (.cells K 24) := ⟨_, rfl⟩
  have hB1 : Blk w1 w.heap.size 24 K := by rw [hw1]; exact Blk.new _ _ _
  have b1 : Below w.heap.size w w1 := by rw [hw1]; exact (Below.refl _ _).alloc (Nat.le_refl _) _
  have hin : (Tryz.prog.info? 24).map (·.size) = some K.size := by rw [hK.size]; exact keysInfo
  have HIN : Hid ((Tryz.prog.info? 24).map (·.size) = some K.size) := hin
  have ck := kitReal_any w1 K hK.c0
  have HW1 : Hid (w1 = w.alloc (.cells K 24)) := hw1
  have hB0 : Blk (w.alloc (.cells K 24)) w.heap.size 24 K := Blk.new _ _ _
  have HLT : Hid (w.heap.size < w1.heap.size) := hB1.lt
  clear hw1 hin
  go_enter Tryz.func3, Tryz.ntmps3
  go_wp2_with (with_reducible refine wpList_load_blk (o := ⟨some 21, .load _ _, _, _, _, _⟩) rfl 24 (.tmp 1) rfl w.heap.size rfl 24 K _ hB0 Tryz.underlying24 rfl HIN.out ?_)
  rw [← HW1.out]
  refine ck.mono ?_
  rintro e w2 ⟨⟨p, rfl, hwp, hP2⟩, b2⟩
  clear ck HW1 hB0
  have cw := works10_any w2
  go_wp2_with fail
  refine cw.mono ?_
  rintro e w3 ⟨rfl, b3⟩
  clear cw
  have hB3 := (hB1.later b2).later b3
  have hP3 := hP2.later b3
  have b13 := Below.step (Below.step b1 b2) b3
  have HB13 : Hid (w1.heap.size ≤ w3.heap.size) := Nat.le_trans b2.size b3.size
  have co := odd_any w3 K false nonce ad text on oa hK.c0 hK.c3 hK.c4 hK.c5 hK.c9 hK.c10 false rfl
  clear hB1 b2 b3 hP2
  go_wp2_with (with_reducible refine wpList_load_blk (o := ⟨some 29, .load _ _, _, _, _, _⟩) rfl 24 (.tmp 1) rfl w.heap.size rfl 24 K _ hB3 Tryz.underlying24 rfl HIN.out ?_)
  refine co.mono ?_
  rintro e w4 ⟨rfl, b4⟩
  clear co HIN
  have hB4 := hB3.later b4
  have hP4 := hP3.later b4
  have b14 := Below.step b13 b4
  have HB14 : Hid (w1.heap.size ≤ w4.heap.size) := Nat.le_trans HB13.out b4.size
  clear hB3 hP3 b13 b4 b1
  obtain ⟨sA, hsA⟩ : ∃ s, s = bs A := ⟨_, rfl⟩
  obtain ⟨sB, hsB⟩ : ∃ s, s = bs B := ⟨_, rfl⟩
  have kA : ∀ x : Later w4, (convert 30 9 (.slice (some ⟨w.heap.size, 1, none⟩) 32 32)).run Tryz.prog x.v = .ok (.string sA) x.v := fun x => by rw [hsA]; exact conv32 (hB4.later x.h) hK.lA hK.cA
  have kB : ∀ x : Later w4, (convert 30 9 (.slice (some ⟨w.heap.size, 33, none⟩) 32 32)).run Tryz.prog x.v = .ok (.string sB) x.v := fun x => by rw [hsB]; exact conv32 (hB4.later x.h) hK.lB hK.cB
  have hlA : sA.size = 32 := by rw [hsA, bs_size, hK.lA]
  have hlB : sB.size = 32 := by rw [hsB, bs_size, hK.lB]
  obtain ⟨j4, xs4, hPB, hPJ, hPne⟩ := hP4
  have cA : ∀ x : Later w4, Calls Tryz.prog 9 #[.pointer (some ⟨p, 0, none⟩), .string sA] x.v fun e w' => e = .returned (.string sA) ∧ Below x.v.heap.size x.v w' := fun x => secretReal_any x.v p j4 (hPB.later x.h) sA hlA
  have cB : ∀ x : Later w4, Calls Tryz.prog 9 #[.pointer (some ⟨p, 0, none⟩), .string sB] x.v fun e w' => e = .returned (.string sB) ∧ Below x.v.heap.size x.v w' := fun x => secretReal_any x.v p j4 (hPB.later x.h) sB hlB
  have hP4 : RealPrim w4 w1.heap.size p 0 := ⟨j4, xs4, hPB, hPJ, hPne⟩
  clear hPB hPJ hPne hsA hsB
  go_wp2_with fail
  refine wp_region_later (by kernel_rfl) (by kernel_rfl) ?_
  iterate 4 (go_big_quiet_step (fail))
  go_big_quiet_step ((go_at_call 9; exact later_of (cA _)))
  iterate 4 (go_big_quiet_step (fail))
  go_big_quiet_step ((go_at_call 9; exact later_of (cB _)))
  repeat (go_big_quiet_step (fail))
  refine wpQuiet_nil ?_
  intro _ hw'
  obtain ⟨x, hw''⟩ := hw'
  subst hw''
  have hB5 := hB4.later x.h
  have hP5 := hP4.later x.h
  have b15 := Below.step b14 x.h
  have HB15 : Hid (w1.heap.size ≤ x.v.heap.size) := Nat.le_trans HB14.out x.h.size
  clear kA kB cA cB hB4 hP4 b14
  obtain ⟨w5, x⟩ := x
  simp only at *
  clear x
  have C3 : w5.cell? ⟨w.heap.size, 65, none⟩ = some (.string nonce) := (hB5.cell 65).trans hK.c3
  have C4 : w5.cell? ⟨w.heap.size, 66, none⟩ = some (.string ad) := (hB5.cell 66).trans hK.c4
  have C5 : w5.cell? ⟨w.heap.size, 67, none⟩ = some (.string text) := (hB5.cell 67).trans hK.c5
  have hbase : w.heap.size < w1.heap.size := HLT.out
  by_cases hl : nonce.size ≤ 16384 ∧ ad.size ≤ 16384 ∧ text.size ≤ 16384
  · obtain ⟨l3, l4, l5⟩ := hl
    have d3 : decide (16384 < (nonce.size : Int)) = false := by simp; omega
    have d4 : decide (16384 < (ad.size : Int)) = false := by simp; omega
    have d5 : decide (16384 < (text.size : Int)) = false := by simp; omega
    have hbw5 : w1.heap.size ≤ w5.heap.size := HB15.out
    have hsp := sealReal_any w5 w1.heap.size p 0 hP5 (by omega) hbw5 hwp sA nonce ad text hlA l3 l4 l5 F H (hT.later b15)
    obtain ⟨S, hS⟩ : ∃ S, S = sealF F H sA.data.toList nonce.data.toList ad.data.toList text.data.toList := ⟨_, rfl⟩
    have hSl : S.length = text.size + 32 := by rw [hS, sealF_length]; rfl
    rw [← hS] at hsp
    obtain ⟨sS, hsS⟩ : ∃ sS, sS = bs S := ⟨_, rfl⟩
    have hsz : sS.size = text.size + 32 := by rw [hsS, bs_size, hSl]
    have hsSl : sS.data.toList = S := by rw [hsS]; rfl
    rw [← hsS] at hsp
    have HS : Hid (S = sealF F H sA.data.toList nonce.data.toList ad.data.toList text.data.toList) := hS
    have HSZ : Hid (sS.size = text.size + 32) := hsz
    have HSL : Hid (sS.data.toList = S) := hsSl
    have HSLL : Hid (S.length = text.size + 32) := hSl
    clear hS hsS hsz hsSl hSl
    go_wp2_with fail
    refine hsp.mono ?_
    rintro e w6 ⟨rfl, hP6, c6⟩
    clear hsp C3 C4 C5
    have hB6 := hB5.below c6 hbase
    have b16 : Below w.heap.size w w6 := b15.trans (c6.mono (by omega))
    have C0 : w6.cell? ⟨w.heap.size, 0, none⟩ = some (.bool false) := (hB6.cell 0).trans hK.c0
    have C3 : w6.cell? ⟨w.heap.size, 65, none⟩ = some (.string nonce) := (hB6.cell 65).trans hK.c3
    have C4 : w6.cell? ⟨w.heap.size, 66, none⟩ = some (.string ad) := (hB6.cell 66).trans hK.c4
    have C5 : w6.cell? ⟨w.heap.size, 67, none⟩ = some (.string text) := (hB6.cell 67).trans hK.c5
    have hop := plainOpen_any w6 sA nonce ad sS text.size hlA (by omega) (by omega) HSZ.out l5 F H (hT.later b16)
    rw [HSL.out, HS.out, show text.size = text.data.toList.length from rfl, openPost_sealF, bs_of] at hop
    have ho := openReal_of w6 w1.heap.size p 1 hP6 (by omega) (Nat.le_trans hbw5 c6.size) hwp sA nonce ad sS text 0 (.inl rfl) hop
    clear hop b15 hB5 hP5
    go_wp2_with fail
    refine ho.mono ?_
    rintro e w7 ⟨rfl, ⟨m7, hm7, hP7⟩, c7⟩
    clear ho C0 C3 C4 C5
    have hB7 := hB6.below c7 hbase
    have b17 : Below w.heap.size w w7 := b16.trans (c7.mono (by omega))
    have C0 : w7.cell? ⟨w.heap.size, 0, none⟩ = some (.bool false) := (hB7.cell 0).trans hK.c0
    have C3 : w7.cell? ⟨w.heap.size, 65, none⟩ = some (.string nonce) := (hB7.cell 65).trans hK.c3
    have C4 : w7.cell? ⟨w.heap.size, 66, none⟩ = some (.string ad) := (hB7.cell 66).trans hK.c4
    have C5 : w7.cell? ⟨w.heap.size, 67, none⟩ = some (.string text) := (hB7.cell 67).trans hK.c5
    have C6 : w7.cell? ⟨w.heap.size, 68, none⟩ = some (.int .u8 (at_ : Int)) := (hB7.cell 68).trans hK.c6
    have C7 : w7.cell? ⟨w.heap.size, 69, none⟩ = some (.int .u8 (by_ : Int)) := (hB7.cell 69).trans hK.c7
    have hkd : ((sS.size : Int) != (text.size : Int) + 32) = false := by rw [bne_eq_false_iff_eq]; have := HSZ.out; omega
    clear b16 hB6 hP6
    by_cases hy : by_ = 0
    · have hy0 : ((by_ : Int) == 0) = true := by rw [beq_iff_eq]; omega
      go_wp2_with fail
      go_ret
      exact ⟨rfl, b17⟩
    · have hy0 : ((by_ : Int) == 0) = false := by rw [beq_eq_false_iff_ne]; omega
      have kb := fun W => Lib.run_convert_string_bytes (P := Tryz.prog) W 9 30 5 sS (u := .string) Tryz.underlying9 Tryz.underlying30 Tryz.underlying5
      have hC8 := CRow.bytes w7 5 sS
      have q8 : Below w7.heap.size w7 (Lib.bytesWorld w7 5 sS) := ⟨rfl, rfl, rfl, by rw [Lib.bytesWorld_size]; omega, fun i hi => Lib.bytesWorld_at_old _ _ _ i hi⟩
      have hsb : sS.size ≤ 20000 := by have := HSZ.out; omega
      have hsb2 : 32 ≤ sS.size := by have := HSZ.out; omega
      have hat0 : (at_ : Int) < 256 := by have := hK.hat; omega
      have C6' : (Lib.bytesWorld w7 5 sS).cell? ⟨w.heap.size, 68, none⟩ = some (.int .u8 (at_ : Int)) := Below.cell_some q8 C6
      go_wp2_with fail
      obtain ⟨cap0, hcap0⟩ : ∃ c, c = grownCap w7 sS.size 0 5 := ⟨_, rfl⟩
      rw [← hcap0]
      obtain ⟨w8, hw8⟩ : ∃ w8, w8 = Lib.bytesWorld w7 5 sS := ⟨_, rfl⟩
      rw [← hw8] at hC8 q8 ⊢
      obtain ⟨ix, hix⟩ : ∃ ix : Nat, ix = sS.size - 1 - at_ % 32 := ⟨_, rfl⟩
      have hI : ((sS.size : Int) - 1 - (at_ : Int) % 32) = (ix : Int) := by omega
      rw [hI]
      have hix1 : ix < sS.size := by omega
      have hix2 : text.size ≤ ix := by have := HSZ.out; omega
      have HIX2 : Hid (ix < text.size + 32 ∧ text.size ≤ ix) := ⟨by have := HSZ.out; omega, hix2⟩
      have hB8 := hB7.later q8
      have hP8 := hP7.later q8
      have hixS : ix < S.length := by have := HSLL.out; have := HSZ.out; omega
      obtain ⟨xv, hxv⟩ : ∃ xv : Nat, xv = S[ix].toNat := ⟨_, rfl⟩
      have hx256 : xv < 256 := by rw [hxv]; exact S[ix].toNat_lt
      have hbyt : byteAt sS.data.toList ix = (xv : Int) := by rw [HSL.out, hxv]; exact byteAt_get _ _ hixS
      have D8 : w8.cell? ⟨w7.heap.size, ix, none⟩ = some (.int .u8 (xv : Int)) := by
        have h := hC8.cell hix1
        rw [hbyt] at h
        exact h
      have F8 : w8.frozen? ⟨w7.heap.size, ix, none⟩ = false := hC8.frozen hix1
      have E7 : w8.cell? ⟨w.heap.size, 69, none⟩ = some (.int .u8 (by_ : Int)) := (hB8.cell 69).trans hK.c7
      have hxor : bits BinOp.xor IntKind.u8 (xv : Int) (by_ : Int) = ((xv ^^^ by_ : Nat) : Int) := u8_xor xv by_ hx256 hK.hby
      have HIX : Hid (ix < S.length) := hixS
      have HXV : Hid (xv = S[ix].toNat) := hxv
      clear hcap0 hw8 hI hix C0 C3 C4 C5 C6 C7 C6' kb hkd hxv hbyt hixS hat0
      go_wp2_with fail
      go_region
      obtain ⟨w9, hw9⟩ : ∃ w9, w9 = (w8.setCell ⟨w7.heap.size, ix, none⟩ (.int .u8 ((xv ^^^ by_ : Nat) : Int))).drew := ⟨_, rfl⟩
      have hlt97 : w.heap.size < w7.heap.size := hB7.lt
      have hC9 : CRow w9 w7.heap.size 5 sS.size (fun i => if i = ix then .int .u8 ((xv ^^^ by_ : Nat) : Int) else .int .u8 (byteAt sS.data.toList i)) := by rw [hw9]; exact hC8.set ix _
      have q9 : Below w7.heap.size w7 w9 := by
        rw [hw9]
        have h := q8.setCell (show w7.heap.size ≤ (⟨w7.heap.size, ix, none⟩ : Addr).block from Nat.le_refl _) (.int .u8 ((xv ^^^ by_ : Nat) : Int))
        exact ⟨h.os, h.tape, h.output, h.size, h.block⟩
      rw [← hw9]
      have hB9 := hB7.later q9
      have hP9 := hP7.later q9
      have b19 := Below.step b17 q9
      have hy8 : xv ^^^ by_ < 256 := Nat.xor_lt_two_pow (n := 8) hx256 hK.hby
      obtain ⟨X8, hX8⟩ : ∃ X8 : UInt8, X8 = (xv ^^^ by_).toUInt8 := ⟨_, rfl⟩
      have hXn : X8.toNat = xv ^^^ by_ := by rw [hX8]; exact u8_key _ hy8
      have hXne : S[ix]? ≠ some X8 := by
        intro h
        rw [List.getElem?_eq_getElem HIX.out] at h
        have h2 : xv = xv ^^^ by_ := by rw [← hXn, ← Option.some.inj h]; exact HXV.out
        have h3 : (xv ^^^ (xv ^^^ by_)) = xv ^^^ xv := by rw [← h2]
        rw [← Nat.xor_assoc, Nat.xor_self, Nat.zero_xor] at h3
        exact hy h3
      have kc := run_convert_bytes_back (P := Tryz.prog) w9 30 9 5 ⟨w7.heap.size, 0, none⟩ cap0 (S.set ix X8) Tryz.underlying30 Tryz.underlying5 Tryz.underlying9 (fun j hj => by
        have hjS : j < S.length := by simpa using hj
        rw [addr_add, Nat.zero_add, hC9.cell (i := j) (by have := HSLL.out; have := HSZ.out; omega)]
        by_cases e : j = ix
        · subst e
          simp [hXn]
        · rw [if_neg e, HSL.out, byteAt_get _ _ hjS, List.getElem_set_ne (Ne.symm e)])
      have hlS : (S.set ix X8).length = sS.size := by rw [List.length_set]; have := HSLL.out; have := HSZ.out; omega
      rw [hlS] at kc
      obtain ⟨sT, hsT⟩ : ∃ sT : ByteArray, sT = ⟨(S.set ix X8).toArray⟩ := ⟨_, rfl⟩
      rw [← hsT] at kc
      have hop2 := plainOpen_any w9 sA nonce ad sT text.size hlA (by omega) (by omega) (by rw [hsT]; show (S.set ix X8).toArray.size = _; simp; exact HSLL.out) l5 F H (hT.later b19)
      have hsTl : sT.data.toList = S.set ix X8 := by rw [hsT]
      have hbad := openPost_turned F H sA.data.toList nonce.data.toList ad.data.toList text.data.toList ix X8 HIX2.out.2 HIX2.out.1 (by rw [← HS.out]; exact hXne)
      rw [← HS.out] at hbad
      rw [hsTl, show text.size = text.data.toList.length from rfl, hbad] at hop2
      have ho2 := openReal_no w9 w1.heap.size p m7 hP9 sA nonce ad sT ⟨#[]⟩ hop2
      have C3 : w9.cell? ⟨w.heap.size, 65, none⟩ = some (.string nonce) := (hB9.cell 65).trans hK.c3
      have C4 : w9.cell? ⟨w.heap.size, 66, none⟩ = some (.string ad) := (hB9.cell 66).trans hK.c4
      clear hw9 hC9 hC8 q8 q9 D8 F8 E7 hxor hop2 hsTl hbad hlS hsT hXne hXn hX8 hy8 hB7 hP7 hB8 hP8 b17 hix1 hix2
      go_wp2_with fail
      refine ho2.mono ?_
      rintro e w10 ⟨rfl, b10⟩
      clear ho2 kc C3 C4
      have hB10 := hB9.later b10
      have hP10 := hP9.later b10
      have b20 := Below.step b19 b10
      obtain ⟨sU, hsU⟩ : ∃ sU, sU = sS.extract 0 31 := ⟨_, rfl⟩
      have hsUs : sU.size < 32 := by rw [hsU]; simp [ByteArray.size_extract]; omega
      have hmin : min (sS.size : Int) 31 = 31 := by omega
      have L3 := later_cell (show w10.cell? ⟨w.heap.size, 65, none⟩ = some (.string nonce) from (hB10.cell 65).trans hK.c3)
      have L4 := later_cell (show w10.cell? ⟨w.heap.size, 66, none⟩ = some (.string ad) from (hB10.cell 66).trans hK.c4)
      have ho3 : ∀ x : Later w10, Calls Tryz.prog 11 #[.pointer (some ⟨p, 0, none⟩), .string sA, .string nonce, .string ad, .string (sS.extract 0 31)] x.v fun e w' => e = .returned (.tuple #[.string ⟨#[]⟩, .int .i64 10]) ∧ Below x.v.heap.size x.v w' := fun x => openReal_no x.v w1.heap.size p m7 (hP10.later x.h) sA nonce ad _ ⟨#[]⟩ (plainOpen_bad x.v sA nonce ad _ hlA (.inl (by rw [← hsU]; exact hsUs)) (by rw [← hsU]; omega))
      clear hsU hsUs hB9 hP9 b19
      go_wp2_with fail
      refine wp_region_later (by kernel_rfl) (by kernel_rfl) ?_
      iterate 11 (go_big_quiet_step (fail))
      go_big_quiet_step ((go_at_call 11; exact later_of (ho3 _)))
      repeat (go_big_quiet_step (fail))
      refine wpQuiet_nil ?_
      intro _ hw'
      obtain ⟨x, hw''⟩ := hw'
      subst hw''
      go_wp2
      go_ret
      exact ⟨rfl, Below.step b20 x.h⟩
  · have hnn : Calls Tryz.prog 27 #[.pointer (some ⟨p, 0, none⟩)] w5 fun e w' => e = .returned (.bool false) ∧ w' = w5 := by
      obtain ⟨j5, xs5, hPB, _, _⟩ := hP5
      exact none_any w5 p j5 hPB
    have hsl := seal_long w5 p sA nonce ad text (by simp [longL]; omega) hnn
    have hnil : (⟨#[]⟩ : ByteArray).toList.isEmpty = true := by rw [Lib.toList_data]; rfl
    by_cases h3 : 16384 < nonce.size
    · have d3 : decide (16384 < (nonce.size : Int)) = true := by simp; omega
      clear hl
      go_wp2_with fail
      refine hsl.mono ?_
      rintro e w6 ⟨rfl, b6⟩
      clear hsl hnn
      have hB6 := hB5.later b6
      have C3 : w6.cell? ⟨w.heap.size, 65, none⟩ = some (.string nonce) := (hB6.cell 65).trans hK.c3
      go_wp2
      go_ret
      exact ⟨rfl, Below.step b15 b6⟩
    · have d3 : decide (16384 < (nonce.size : Int)) = false := by simp; omega
      by_cases h4 : 16384 < ad.size
      · have d4 : decide (16384 < (ad.size : Int)) = true := by simp; omega
        clear hl
        go_wp2_with fail
        refine hsl.mono ?_
        rintro e w6 ⟨rfl, b6⟩
        clear hsl hnn
        have hB6 := hB5.later b6
        have C3 : w6.cell? ⟨w.heap.size, 65, none⟩ = some (.string nonce) := (hB6.cell 65).trans hK.c3
        have C4 : w6.cell? ⟨w.heap.size, 66, none⟩ = some (.string ad) := (hB6.cell 66).trans hK.c4
        go_wp2
        go_ret
        exact ⟨rfl, Below.step b15 b6⟩
      · have d4 : decide (16384 < (ad.size : Int)) = false := by simp; omega
        have d5 : decide (16384 < (text.size : Int)) = true := by simp; omega
        clear hl
        go_wp2_with fail
        refine hsl.mono ?_
        rintro e w6 ⟨rfl, b6⟩
        clear hsl hnn
        have hB6 := hB5.later b6
        have C3 : w6.cell? ⟨w.heap.size, 65, none⟩ = some (.string nonce) := (hB6.cell 65).trans hK.c3
        have C4 : w6.cell? ⟨w.heap.size, 66, none⟩ = some (.string ad) := (hB6.cell 66).trans hK.c4
        have C5 : w6.cell? ⟨w.heap.size, 67, none⟩ = some (.string text) := (hB6.cell 67).trans hK.c5
        go_wp2
        go_ret
        exact ⟨rfl, Below.step b15 b6⟩
end Go.Proofs.YtipehnojibdfeaaGreat
