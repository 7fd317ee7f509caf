/- Parts of the proof, as they were built: Rec1, Rec2, Rec3, Rec4, Rec5, Rec6, Sealed2. -/
import Derived.Test.YtipehnojibdfeaaGreatRk14
import Derived.Deep.RegionHeld3

/- record: Open, none, the number of a frame, Seal. -/
namespace Go.Proofs.YtipehnojibdfeaaGreat
open Go Go.Proofs Go.RowKit

def recCells (p : Nat) (s1 : ByteArray) (n1 : Nat) (s2 : ByteArray) (n2 : Nat) : Array Value := #[.pointer (some ⟨p, 0, none⟩), .string s1, .int .u64 (n1 : Int), .string s2, .int .u64 (n2 : Int)]
theorem recOpen_any (w : World) (p : Nat) (s1 s2 : ByteArray) : Calls Tryz.prog 20 #[.pointer (some ⟨p, 0, none⟩), .string s1, .string s2] w fun e w' => e = .returned (.pointer (some ⟨w.heap.size, 0, none⟩)) ∧ Blk w' w.heap.size 67 (recCells p s1 0 s2 0) ∧ Below w.heap.size w w' := by
  go_enter Tryz.func20, Tryz.ntmps20
  go_wp2_with fail
  go_ret
  exact ⟨rfl, Blk.new _ _ _, (Below.refl _ _).alloc (Nat.le_refl _) _⟩
theorem recNone_any (w : World) (r p n1 n2 : Nat) (s1 s2 : ByteArray) (hr : Blk w r 67 (recCells p s1 n1 s2 n2)) : Calls Tryz.prog 30 #[.pointer (some ⟨r, 0, none⟩)] w fun e w' => e = .returned (.bool false) ∧ w' = w := by
  have C0 : w.cell? ⟨r, 0, none⟩ = some (.pointer (some ⟨p, 0, none⟩)) := hr.cell 0
  clear hr
  go_enter Tryz.func30, Tryz.ntmps30
  go_wp2_with fail
  go_ret
  exact ⟨rfl, rfl⟩
/-- the bytes of a frame's number -/
def num8 (n : Nat) : List UInt8 := numTo (n : Int) 8 8
theorem num8_length (n : Nat) : (num8 n).length = 8 := numTo_length _ _ _
set_option maxRecDepth 100000 in
theorem recNumber_any (w : World) (c r p n1 n2 : Nat) (s1 s2 : ByteArray) (hr : Blk w r 67 (recCells p s1 n1 s2 n2)) (hc : Blk w c 34 #[.pointer (some ⟨r, 0, none⟩)]) (hn : n1 < 1099511627776) :
    Calls Tryz.prog 31 #[.pointer (some ⟨c, 0, none⟩)] w fun e w' => e = .returned (.string (bs (num8 (n1 + 1)))) ∧ Below w.heap.size w w' := by
  have C0 : w.cell? ⟨c, 0, none⟩ = some (.pointer (some ⟨r, 0, none⟩)) := hc.cell 0
  have C2 : w.cell? ⟨r, 2, none⟩ = some (.int .u64 (n1 : Int)) := hr.cell 2
  have hn2 : (n1 : Int) < 1099511627776 := by omega
  have hp := putNumber_any w ⟨#[]⟩ 8 ((n1 : Int) + 1) (by omega) (by omega) (by decide) (by omega) (by omega)
  clear hr hc
  go_enter Tryz.func31, Tryz.ntmps31
  go_wp2_with fail
  refine hp.mono ?_
  rintro e w' ⟨rfl, hb⟩
  clear hp
  go_wp2
  go_ret
  exact ⟨rfl, hb⟩

set_option maxRecDepth 100000 in
set_option maxHeartbeats 4000000 in
theorem recSeal_any (w : World) (r p n1 n2 : Nat) (s1 s2 text out : ByteArray) (hr : Blk w r 67 (recCells p s1 n1 s2 n2)) (hn : n1 < 1099511627776) (hout : out.size ≤ 100000000) (Post : World → World → Prop)
    (hs : ∀ x : Later w, Calls Tryz.prog 10 #[.pointer (some ⟨p, 0, none⟩), .string s1, .string (bs (num8 (n1 + 1))), .string (bs (num8 (n1 + 1))), .string text] x.v fun e w' => e = .returned (.tuple #[.string out, .int .i64 0]) ∧ Post x.v w')
    (hk : ∀ (x : Later w) w' (g : Nat) (t : TypeId) (cs : Array Value), Post x.v w' → Blk x.v g t cs → (t = 67 ∨ t = 34) → Blk w' g t cs) :
    Calls Tryz.prog 13 #[.pointer (some ⟨r, 0, none⟩), .string text] w fun e w' => e = .returned (.tuple #[.string (bs (num8 (n1 + 1) ++ out.data.toList)), .int .i64 0]) ∧
      ∃ (x : Later w) (w2 w3 : World), Post x.v w2 ∧ Below w2.heap.size w2 w3 ∧ w' = w3.setCell ⟨r, 2, none⟩ (.int .u64 ((n1 : Int) + 1)) ∧ Blk w' r 67 (recCells p s1 (n1 + 1) s2 n2) := by
  obtain ⟨w1, hw1⟩ : ∃ w1, w1 = w.alloc (.cells #[.pointer (some ⟨r, 0, none⟩)] 34) := ⟨_, rfl⟩
  have b1 : Below w.heap.size w w1 := by rw [hw1]; exact (Below.refl _ _).alloc (Nat.le_refl _) _
  have hc1 : Blk w1 w.heap.size 34 #[.pointer (some ⟨r, 0, none⟩)] := by rw [hw1]; exact Blk.new _ _ _
  have hr1 := hr.later b1
  have hnone := recNone_any w1 r p n1 n2 s1 s2 hr1
  obtain ⟨sn, hsn⟩ : ∃ sn, sn = bs (num8 (n1 + 1)) := ⟨_, rfl⟩
  rw [← hsn] at hs
  have L0 := later_cell (show w1.cell? ⟨w.heap.size, 0, none⟩ = some (.pointer (some ⟨r, 0, none⟩)) from hc1.cell 0)
  have L1 := later_cell (show w1.cell? ⟨r, 1, none⟩ = some (.string s1) from hr1.cell 1)
  have C0 : w1.cell? ⟨w.heap.size, 0, none⟩ = some (.pointer (some ⟨r, 0, none⟩)) := hc1.cell 0
  have C1 : w1.cell? ⟨r, 0, none⟩ = some (.pointer (some ⟨p, 0, none⟩)) := hr1.cell 0
  have C2 : w1.cell? ⟨r, 2, none⟩ = some (.int .u64 (n1 : Int)) := hr1.cell 2
  have hkd : decide ((1099511627776 : Int) ≤ (n1 : Int)) = false := by rw [decide_eq_false_iff_not]; omega
  have hnum : ∀ x : Later w1, Calls Tryz.prog 31 #[.pointer (some ⟨w.heap.size, 0, none⟩)] x.v fun e w' => e = .returned (.string sn) ∧ Below x.v.heap.size x.v w' := fun x => by rw [hsn]; exact recNumber_any x.v w.heap.size r p n1 n2 s1 s2 (hr1.later x.h) (hc1.later x.h) hn
  subst hw1
  have HSN : Hid (sn = bs (num8 (n1 + 1))) := hsn
  clear hsn
  go_enter Tryz.func13, Tryz.ntmps13
  go_wp2_with fail
  refine hnone.mono ?_
  rintro e w' ⟨rfl, hw⟩
  rw [hw]
  clear hw w' hnone
  go_wp2_with fail
  obtain ⟨w1, hw1⟩ : ∃ w1, w1 = w.alloc (.cells #[.pointer (some ⟨r, 0, none⟩)] 34) := ⟨_, rfl⟩
  rw [← hw1] at b1 hc1 hr1 ⊢
  clear hw1 L0 L1 C0 C1 C2 hnum
  have Z0 : w1.drew.cell? ⟨w.heap.size, 0, none⟩ = some (.pointer (some ⟨r, 0, none⟩)) := hc1.cell 0
  have Z1 : w1.drew.cell? ⟨r, 1, none⟩ = some (.string s1) := hr1.cell 1
  have b1d : Below w.heap.size w w1.drew := ⟨b1.os, b1.tape, b1.output, b1.size, b1.block⟩
  have hN1 := recNumber_any w1.drew w.heap.size r p n1 n2 s1 s2 hr1.drew hc1.drew hn
  rw [← HSN.out] at hN1
  have hN2 : ∀ W, Blk W r 67 (recCells p s1 n1 s2 n2) → Blk W w.heap.size 34 #[.pointer (some ⟨r, 0, none⟩)] → Calls Tryz.prog 31 #[.pointer (some ⟨w.heap.size, 0, none⟩)] W fun e w' => e = .returned (.string sn) ∧ Below W.heap.size W w' := fun W h1 h2 => by
    rw [HSN.out]; exact recNumber_any W w.heap.size r p n1 n2 s1 s2 h1 h2 hn
  go_region_held3 (fun w' => w'.cell? ⟨w.heap.size, 0, none⟩ = some (.pointer (some ⟨r, 0, none⟩)) ∧ w'.cell? ⟨r, 1, none⟩ = some (.string s1)) (first | (with_reducible exact ⟨Z0, Z1⟩) | (with_reducible exact ⟨A0, A1⟩) | (with_reducible exact ⟨B0, B1⟩) | (with_reducible exact ⟨E0, E1⟩))
    (first
      | (go_at_call 10; refine (hs ⟨wB, b1B⟩).mono ?_; rintro e wE ⟨rfl, hPE⟩; have hcE := hk ⟨wB, b1B⟩ wE _ _ _ hPE hcB (.inr rfl); have hrE := hk ⟨wB, b1B⟩ wE _ _ _ hPE hrB (.inl rfl); have E0 : wE.cell? ⟨w.heap.size, 0, none⟩ = some (.pointer (some ⟨r, 0, none⟩)) := hcE.cell 0; have E1 : wE.cell? ⟨r, 1, none⟩ = some (.string s1) := hrE.cell 1)
      | (go_at_call 31; refine (hN2 wA hrA hcA).mono ?_; rintro e wB ⟨rfl, bB⟩; have b1B := Below.step b1A bB; have hcB := hcA.later bB; have hrB := hrA.later bB; have B0 : wB.cell? ⟨w.heap.size, 0, none⟩ = some (.pointer (some ⟨r, 0, none⟩)) := hcB.cell 0; have B1 : wB.cell? ⟨r, 1, none⟩ = some (.string s1) := hrB.cell 1; clear hrA hcA)
      | (go_at_call 31; refine hN1.mono ?_; rintro e wA ⟨rfl, bA⟩; have b1A := Below.step b1d bA; have hcA := hc1.drew.later bA; have hrA := hr1.drew.later bA; have A0 : wA.cell? ⟨w.heap.size, 0, none⟩ = some (.pointer (some ⟨r, 0, none⟩)) := hcA.cell 0; have A1 : wA.cell? ⟨r, 1, none⟩ = some (.string s1) := hrA.cell 1))
  clear Z0 Z1 A0 A1 B0 B1 hN1 b1A hc1 hr1 b1d bA
  have hN3 := hN2 wE hrE hcE
  have hadd := fun W => run_string_add_sum (P := Tryz.prog) W sn out (by rw [HSN.out, bs_size, num8_length]; omega)
  have hn64 : (n1 : Int) < 1099511627776 := by omega
  clear hN2 E0 E1
  go_wp2_with fail
  refine hN3.mono ?_
  rintro e wF ⟨rfl, bF⟩
  have hcF := hcE.later bF
  have hrF := hrE.later bF
  have E0 : wF.cell? ⟨w.heap.size, 0, none⟩ = some (.pointer (some ⟨r, 0, none⟩)) := hcF.cell 0
  have E2 : wF.cell? ⟨r, 2, none⟩ = some (.int .u64 (n1 : Int)) := hrF.cell 2
  have FE2 : wF.frozen? ⟨r, 2, none⟩ = false := hrF.frozen 2
  clear hN3
  go_wp2
  go_ret2
  refine ⟨?_, ⟨wB, b1B⟩, wE, wF, hPE, bF, rfl, hrF.set_ 2 _⟩
  rw [← bs_append, ← HSN.out, bs_of]
  rfl
end Go.Proofs.YtipehnojibdfeaaGreat

/- layer 15's key, both. -/
namespace Go.Proofs.YtipehnojibdfeaaGreat
open Go Go.Proofs Go.RowKit

theorem u8_of_nat (y : Nat) (h : y < 256) : (y.toUInt8).toNat = y := by simp; omega
theorem row32_zero (w : World) (t : TypeId) : (w.alloc (.cells #[.int .u8 0, .int .u8 0, .int .u8 0, .int .u8 0, .int .u8 0, .int .u8 0, .int .u8 0, .int .u8 0, .int .u8 0, .int .u8 0, .int .u8 0, .int .u8 0, .int .u8 0, .int .u8 0, .int .u8 0, .int .u8 0, .int .u8 0, .int .u8 0, .int .u8 0, .int .u8 0, .int .u8 0, .int .u8 0, .int .u8 0, .int .u8 0, .int .u8 0, .int .u8 0, .int .u8 0, .int .u8 0, .int .u8 0, .int .u8 0, .int .u8 0, .int .u8 0] t)).rowIs w.heap.size t 32 (fun _ => .int .u8 0) :=
  World.rowIs_alloc w _ t _ (fun i hi => by
    have h : i < 32 := hi
    show (Array.replicate 32 (Value.int .u8 0))[i]? = _
    rw [Array.getElem?_replicate, if_pos h])
set_option maxRecDepth 100000 in
set_option maxHeartbeats 4000000 in
theorem key15_any (w : World) (n : Nat) (hn : n < 256) : Calls Tryz.prog 16 #[.int .u8 (n : Int)] w fun e w' => e = .returned (.string (bs (List.replicate 32 n.toUInt8))) ∧ Below w.heap.size w w' := by
  have h0 := row32_zero w 22
  go_enter Tryz.func16, Tryz.ntmps16
  go_wp2_with fail
  go_loopw [4] (fun i wr => ∃ k : Nat, k ≤ 32 ∧ i = .int .i64 k ∧ wr.rowIs w.heap.size 22 32 (fun j => .int .u8 (if j < k then (n : Int) else 0)) ∧ Below w.heap.size w wr) (fun i _ => 32 - (intOf i).toNat)
  case atStart => exact ⟨0, by omega, rfl, h0.congr (fun j hj => by simp), (Below.refl _ _).alloc (Nat.le_refl _) _⟩
  case round =>
    clear h0
    obtain ⟨k, hk, rfl, hR, hb⟩ := hrel
    by_cases hk32 : k < 32
    · have hfz := hR.frozen k
      have hmc := hR.cell (i := k) (by omega)
      go_wp2
      go_roundw
      case rel =>
        refine ⟨k + 1, by omega, by go_num, (hR.set k _).congr (fun j hj => ?_), hb.setCell (Nat.le_refl _) _⟩
        by_cases e : j = k
        · subst e; simp
        · have e2 : (j < k + 1) = (j < k) := by rw [eq_iff_iff]; omega
          simp [e, e2]
      case measure => simp [intOf]; omega
    · obtain rfl : k = 32 := by omega
      have kc := run_convert_bytes_back (P := Tryz.prog) wr 30 9 5 ⟨w.heap.size, 0, none⟩ 32 (List.replicate 32 n.toUInt8) Tryz.underlying30 Tryz.underlying5 Tryz.underlying9 (fun j hj => by
        have hj32 : j < 32 := by simpa using hj
        rw [addr_add, Nat.zero_add, hR.cell hj32, if_pos hj32, List.getElem_replicate, u8_of_nat n hn])
      rw [List.length_replicate] at kc
      go_wp2
      go_ret
      exact ⟨rfl, hb⟩
def key1 : ByteArray := bs (List.replicate 32 1)
def key2 : ByteArray := bs (List.replicate 32 2)
set_option maxRecDepth 100000 in
set_option maxHeartbeats 4000000 in
theorem bothReal_any (w : World) : Calls Tryz.prog 12 #[.int .i64 0] w fun e w' => ∃ p r1 r2, e = .returned (.tuple #[.pointer (some ⟨p, 0, none⟩), .pointer (some ⟨r1, 0, none⟩), .pointer (some ⟨r2, 0, none⟩)]) ∧ w.heap.size ≤ p ∧ p < r1 ∧ r1 < r2 ∧
      PrimAt w' w.heap.size p 0 (.int .i64 0) (.iface 75 (.agg #[])) (.pointer none) ∧ Blk w' r1 67 (recCells p key1 0 key2 0) ∧ Blk w' r2 67 (recCells p key2 0 key1 0) ∧ Below w.heap.size w w' := by
  have hn := newReal w
  go_enter Tryz.func12, Tryz.ntmps12
  go_wp2_with fail
  refine hn.mono ?_
  rintro e w1 ⟨rfl, hB1, b1⟩
  clear hn
  have hk1 := key15_any w1 1 (by omega)
  go_wp2_with fail
  refine hk1.mono ?_
  rintro e w2 ⟨rfl, b2⟩
  clear hk1
  have hB2 := hB1.later b2
  have hs1 := secretReal_any w2 w.heap.size (.slice none 0 0) hB2 key1 (by unfold key1; rw [bs_size]; rfl)
  go_wp2_with fail
  refine hs1.mono ?_
  rintro e w3 ⟨rfl, b3⟩
  clear hs1
  have hB3 := hB2.later b3
  have hk2 := key15_any w3 2 (by omega)
  go_wp2_with fail
  refine hk2.mono ?_
  rintro e w4 ⟨rfl, b4⟩
  clear hk2
  have hB4 := hB3.later b4
  have hs2 := secretReal_any w4 w.heap.size (.slice none 0 0) hB4 key2 (by unfold key2; rw [bs_size]; rfl)
  go_wp2_with fail
  refine hs2.mono ?_
  rintro e w5 ⟨rfl, b5⟩
  clear hs2
  have hB5 := hB4.later b5
  have ho1 := recOpen_any w5 w.heap.size key1 key2
  go_wp2_with fail
  refine ho1.mono ?_
  rintro e w6 ⟨rfl, hr6, b6⟩
  clear ho1
  have ho2 := recOpen_any w6 w.heap.size key2 key1
  go_wp2_with fail
  refine ho2.mono ?_
  rintro e w7 ⟨rfl, hr7, b7⟩
  clear ho2
  have b := Below.step (Below.step (Below.step (Below.step (Below.step (Below.step b1 b2) b3) b4) b5) b6) b7
  go_wp2
  go_ret3
  exact ⟨_, _, _, rfl, Nat.le_refl _, hB5.lt, hr6.lt, ⟨.slice none 0 0, [], (hB5.later b6).later b7, World.ownsRow_nil _ _ _ _, by simp [Value.ownBlock]⟩, hr6.later b7, hr7, b⟩
end Go.Proofs.YtipehnojibdfeaaGreat

/- record: Take. -/
namespace Go.Proofs.YtipehnojibdfeaaGreat
open Go Go.Proofs Go.RowKit

set_option maxRecDepth 100000 in
set_option maxHeartbeats 4000000 in
theorem recTake_short (w : World) (r p n1 n2 : Nat) (s1 s2 f : ByteArray) (hr : Blk w r 67 (recCells p s1 n1 s2 n2)) (hf : f.size < 8) :
    Calls Tryz.prog 15 #[.pointer (some ⟨r, 0, none⟩), .string f] w fun e w' => e = .returned (.tuple #[.string ⟨#[]⟩, .int .i64 4]) ∧ Below w.heap.size w w' := by
  have hnone := recNone_any w r p n1 n2 s1 s2 hr
  have hnew := new_any w f
  go_enter Tryz.func15, Tryz.ntmps15
  go_wp2_with fail
  refine hnone.mono ?_
  rintro e w' ⟨rfl, hw⟩
  rw [hw]
  clear hw w' hnone
  go_wp2_with fail
  refine hnew.mono ?_
  rintro e w1 ⟨q, rfl, hq, hrd, b1⟩
  clear hnew
  have hnum := number_any w1 q 8 f.data.toList hrd (by omega) (by omega)
  go_wp2_with fail
  refine hnum.mono ?_
  rintro e w2 ⟨b2, hp⟩
  rw [if_neg (by show ¬ 8 ≤ f.size; omega)] at hp
  obtain ⟨rfl, _⟩ := hp
  clear hnum
  go_wp2
  go_ret2
  exact ⟨rfl, b1⟩
/-- the number of a frame -/
def numIn (f : ByteArray) : Nat := beNat (f.data.toList.take 8)
set_option maxRecDepth 100000 in
set_option maxHeartbeats 4000000 in
theorem recTake_stale (w : World) (r p n1 n2 : Nat) (s1 s2 f : ByteArray) (hr : Blk w r 67 (recCells p s1 n1 s2 n2)) (hf : 8 ≤ f.size) (hn : numIn f ≤ n2) :
    Calls Tryz.prog 15 #[.pointer (some ⟨r, 0, none⟩), .string f] w fun e w' => e = .returned (.tuple #[.string ⟨#[]⟩, .int .i64 12]) ∧ Below w.heap.size w w' := by
  have hnone := recNone_any w r p n1 n2 s1 s2 hr
  have hnew := new_any w f
  have hkd : decide ((numIn f : Int) ≤ (n2 : Int)) = true := by simp; omega
  go_enter Tryz.func15, Tryz.ntmps15
  go_wp2_with fail
  refine hnone.mono ?_
  rintro e w' ⟨rfl, hw⟩
  rw [hw]
  clear hw w' hnone
  go_wp2_with fail
  refine hnew.mono ?_
  rintro e w1 ⟨q, rfl, hq, hrd, b1⟩
  clear hnew
  have hnum := number_any w1 q 8 f.data.toList hrd (by omega) (by omega)
  go_wp2_with fail
  refine hnum.mono ?_
  rintro e w2 ⟨b2, hp⟩
  rw [if_pos (by show 8 ≤ f.size; omega)] at hp
  obtain ⟨rfl, _⟩ := hp
  have b12 : Below w.heap.size w w2 := b1.trans (b2.mono hq)
  have C4 : w2.cell? ⟨r, 4, none⟩ = some (.int .u64 (n2 : Int)) := (hr.later b12).cell 4
  rw [show beNat (List.take 8 f.data.toList) = numIn f from rfl]
  clear hnum hr
  go_wp2
  go_ret2
  exact ⟨rfl, b12⟩

set_option maxRecDepth 100000 in
set_option maxHeartbeats 4000000 in
theorem recTake_any (w : World) (r p n1 n2 : Nat) (s1 s2 f out : ByteArray) (er : Int) (her : 0 ≤ er ∧ er < 20) (hr : Blk w r 67 (recCells p s1 n1 s2 n2)) (hf : 8 ≤ f.size) (hf2 : f.size ≤ 9223372036854775807) (hn : n2 < numIn f) (Post : World → World → Prop)
    (hs : ∀ x : Later w, Calls Tryz.prog 11 #[.pointer (some ⟨p, 0, none⟩), .string s2, .string (f.extract 0 8), .string (f.extract 0 8), .string (f.extract 8 f.size)] x.v fun e w' => e = .returned (.tuple #[.string out, .int .i64 er]) ∧ Post x.v w')
    (hk : ∀ (x : Later w) w' (g : Nat) (t : TypeId) (cs : Array Value), Post x.v w' → Blk x.v g t cs → t = 67 → Blk w' g t cs) :
    Calls Tryz.prog 15 #[.pointer (some ⟨r, 0, none⟩), .string f] w fun e w' =>
      if er = 0 then e = .returned (.tuple #[.string out, .int .i64 0]) ∧ ∃ (x : Later w) (w2 : World), Post x.v w2 ∧ w' = w2.setCell ⟨r, 4, none⟩ (.int .u64 (numIn f : Int)) ∧ Blk w' r 67 (recCells p s1 n1 s2 (numIn f))
      else e = .returned (.tuple #[.string ⟨#[]⟩, .int .i64 er]) ∧ ∃ x : Later w, Post x.v w' ∧ Blk w' r 67 (recCells p s1 n1 s2 n2) := by
  have hnone := recNone_any w r p n1 n2 s1 s2 hr
  have hnew := new_any w f
  have hkd : decide ((numIn f : Int) ≤ (n2 : Int)) = false := by simp; omega
  go_enter Tryz.func15, Tryz.ntmps15
  go_wp2_with fail
  refine hnone.mono ?_
  rintro e w' ⟨rfl, hw⟩
  rw [hw]
  clear hw w' hnone
  go_wp2_with fail
  refine hnew.mono ?_
  rintro e w1 ⟨q, rfl, hq, hrd, b1⟩
  clear hnew
  have hnum := number_any w1 q 8 f.data.toList hrd (by omega) (by omega)
  go_wp2_with fail
  refine hnum.mono ?_
  rintro e w2 ⟨b2, hp⟩
  rw [if_pos (by show 8 ≤ f.size; omega)] at hp
  obtain ⟨rfl, _⟩ := hp
  have b12 : Below w.heap.size w w2 := b1.trans (b2.mono hq)
  have hr2 := hr.later b12
  have C0 : w2.cell? ⟨r, 0, none⟩ = some (.pointer (some ⟨p, 0, none⟩)) := hr2.cell 0
  have C4 : w2.cell? ⟨r, 4, none⟩ = some (.int .u64 (n2 : Int)) := hr2.cell 4
  rw [show beNat (List.take 8 f.data.toList) = numIn f from rfl]
  clear hnum b1 b2 hrd
  have hf8 : (8 : Int) ≤ (f.size : Int) := by omega
  go_wp2_with fail
  have Z3 : w2.drew.cell? ⟨r, 3, none⟩ = some (.string s2) := hr2.cell 3
  have b2d : Below w.heap.size w w2.drew := ⟨b12.os, b12.tape, b12.output, b12.size, b12.block⟩
  have hrd := hr2.drew
  go_region_held3 (fun w' => w'.cell? ⟨r, 3, none⟩ = some (.string s2)) (first | (with_reducible exact Z3) | (with_reducible exact E3))
    (first | (go_at_call 11; refine (hs ⟨w2.drew, b2d⟩).mono ?_; rintro e wE ⟨rfl, hPE⟩; have hrE := hk ⟨w2.drew, b2d⟩ wE _ _ _ hPE hrd rfl; have E3 : wE.cell? ⟨r, 3, none⟩ = some (.string s2) := hrE.cell 3))
  clear Z3 E3 C0 C4 hkd
  by_cases h0 : er = 0
  · subst h0
    have E4 : wE.cell? ⟨r, 4, none⟩ = some (.int .u64 (n2 : Int)) := hrE.cell 4
    have F4 : wE.frozen? ⟨r, 4, none⟩ = false := hrE.frozen 4
    go_wp2
    go_ret2
    exact ⟨rfl, ⟨w2.drew, b2d⟩, wE, hPE, rfl, hrE.set_ 4 _⟩
  · have he : (er != 0) = true := by rw [bne_iff_ne]; exact h0
    go_wp2
    go_ret2
    first | rw [if_neg h0] | skip
    first | exact ⟨rfl, ⟨⟨w2.drew, b2d⟩, hPE⟩, hrE⟩ | exact ⟨rfl, ⟨w2.drew, b2d⟩, hPE, hrE⟩
end Go.Proofs.YtipehnojibdfeaaGreat

/- prim's Seal and Open of the real kind, with all that stays. -/
namespace Go.Proofs.YtipehnojibdfeaaGreat
open Go Go.Proofs Go.RowKit

/-- a prim of the real kind -/
def RealP (w : World) (base p n : Nat) : Prop := PrimAt w base p n (.int .i64 0) (.iface 75 (.agg #[])) (.pointer none)
theorem RealP.later {w w' : World} {base p n : Nat} (h : RealP w base p n) (hb : Below w.heap.size w w') : RealP w' base p n := PrimAt.later h hb
set_option maxRecDepth 100000 in
set_option maxHeartbeats 2000000 in
theorem sealReal2_any (w : World) (base p n : Nat) (hp : RealP w base p n) (hn : n ≤ 1000000) (hb : base ≤ w.heap.size) (hbp : base ≤ p) (key nonce ad text : ByteArray) (hk : key.size = 32) (h1 : nonce.size ≤ 16384) (h2 : ad.size ≤ 16384) (h3 : text.size ≤ 16384) (F K : Nat → Int) (hT : Tabs w F K) :
    Calls Tryz.prog 10 #[.pointer (some ⟨p, 0, none⟩), .string key, .string nonce, .string ad, .string text] w fun e w' => e = .returned (.tuple #[.string (bs (sealF F K key.data.toList nonce.data.toList ad.data.toList text.data.toList)), .int .i64 0]) ∧ RealP w' base p (n + 1) ∧ Below base w w' ∧ Far notPrim w w' := by
  obtain ⟨j, xs, hB, hJ, hne⟩ := hp
  have hnone := none_any w p j hB
  have hlong := long_any (w.alloc (.cells #[.string nonce, .string ad, .string text] 9)) [nonce, ad, text] (some ⟨w.heap.size, 0, none⟩) 3 3 _ (reads_three w _ _ _ _) (by omega)
  have hll : longL [nonce, ad, text] = false := by simp [longL]; omega
  rw [hll] at hlong
  have q1 : Below w.heap.size w (w.alloc (.cells #[.string nonce, .string ad, .string text] 9)) := (Below.refl _ _).alloc (Nat.le_refl _) _
  have hP : RealP w base p n := ⟨j, xs, hB, hJ, hne⟩
  have C1 : (w.alloc (.cells #[.string nonce, .string ad, .string text] 9)).cell? ⟨p, 1, none⟩ = some (.iface 75 (.agg #[])) := (hB.alloc _).cell 1
  have hseal := plainSeal_any (w.alloc (.cells #[.string nonce, .string ad, .string text] 9)) key nonce ad text hk (by omega) (by omega) (by omega) F K (hT.later q1)
  clear hB hJ hne hll
  go_enter Tryz.func10, Tryz.ntmps10
  go_wp2_with fail
  refine hnone.mono ?_
  rintro e w' ⟨rfl, hw⟩
  rw [hw]
  clear hw w'
  go_wp2_with fail
  refine hlong.mono ?_
  rintro e w' ⟨rfl, hw⟩
  rw [hw]
  clear hw w'
  go_wp2_with fail
  rw [meets_seal]
  go_wp2_with fail
  refine hseal.mono ?_
  rintro e w2 ⟨rfl, c2⟩
  have q2 := q1.trans (c2.mono (by simp))
  have hd := did2_any w2 base p n _ _ _ (hP.later q2) hn (Nat.le_trans hb q2.size) hbp 1 key nonce ad text (bs (sealF F K key.data.toList nonce.data.toList ad.data.toList text.data.toList))
  clear hnone hlong hseal C1
  go_wp2_with fail
  refine hd.mono ?_
  rintro e w3 ⟨rfl, hP3, c3, f3⟩
  have q3 : Below base w w3 := (q2.mono hb).trans c3
  clear hd
  go_wp2
  go_ret2
  exact ⟨rfl, hP3, q3, (Far.of_below q2).trans f3⟩
set_option maxRecDepth 100000 in
set_option maxHeartbeats 2000000 in
theorem openReal2_of (w : World) (base p n : Nat) (hp : RealP w base p n) (hn : n ≤ 1000000) (hb : base ≤ w.heap.size) (hbp : base ≤ p) (key nonce ad sealed out : ByteArray) (er : Int) (her : er = 0 ∨ er = 10)
    (hopen : Calls Tryz.prog 62 #[.agg #[], .string key, .string nonce, .string ad, .string sealed] w fun e w' => e = .returned (.tuple #[.string out, .int .i64 er]) ∧ Below w.heap.size w w') :
    Calls Tryz.prog 11 #[.pointer (some ⟨p, 0, none⟩), .string key, .string nonce, .string ad, .string sealed] w fun e w' => e = .returned (.tuple #[.string out, .int .i64 er]) ∧ RealP w' base p (if er = 0 then n + 1 else n) ∧ Below base w w' ∧ Far notPrim w w' := by
  obtain ⟨j, xs, hB, hJ, hne⟩ := hp
  have hnone := none_any w p j hB
  have hP : RealP w base p n := ⟨j, xs, hB, hJ, hne⟩
  have C1 : w.cell? ⟨p, 1, none⟩ = some (.iface 75 (.agg #[])) := hB.cell 1
  clear hB hJ hne
  go_enter Tryz.func11, Tryz.ntmps11
  go_wp2_with fail
  refine hnone.mono ?_
  rintro e w' ⟨rfl, hw⟩
  rw [hw]
  clear hw w'
  go_wp2_with fail
  rw [meets_open]
  go_wp2_with fail
  refine hopen.mono ?_
  rintro e w2 ⟨rfl, c2⟩
  rcases her with rfl | rfl
  · have hd := did2_any w2 base p n _ _ _ (hP.later c2) hn (Nat.le_trans hb c2.size) hbp 2 key nonce ad sealed out
    clear hnone hopen C1
    go_wp2_with fail
    refine hd.mono ?_
    rintro e w3 ⟨rfl, hP3, c3, f3⟩
    have q3 : Below base w w3 := (c2.mono hb).trans c3
    clear hd
    go_wp2
    go_ret2
    exact ⟨rfl, hP3, q3, (Far.of_below c2).trans f3⟩
  · have hP2 := hP.later c2
    clear hnone hopen C1
    go_wp2
    go_ret2
    exact ⟨rfl, hP2, c2.mono hb, Far.of_below c2⟩
set_option maxRecDepth 100000 in
set_option maxHeartbeats 2000000 in
/-- Open that is refused: nothing that was there is turned -/
theorem openReal2_no (w : World) (p : Nat) (j : Value) (hB : Blk w p 56 (primCells (.int .i64 0) (.iface 75 (.agg #[])) (.pointer none) j)) (key nonce ad sealed out : ByteArray)
    (hopen : Calls Tryz.prog 62 #[.agg #[], .string key, .string nonce, .string ad, .string sealed] w fun e w' => e = .returned (.tuple #[.string out, .int .i64 10]) ∧ Below w.heap.size w w') :
    Calls Tryz.prog 11 #[.pointer (some ⟨p, 0, none⟩), .string key, .string nonce, .string ad, .string sealed] w fun e w' => e = .returned (.tuple #[.string out, .int .i64 10]) ∧ Below w.heap.size w w' := by
  have hnone := none_any w p j hB
  have C1 : w.cell? ⟨p, 1, none⟩ = some (.iface 75 (.agg #[])) := hB.cell 1
  clear hB
  go_enter Tryz.func11, Tryz.ntmps11
  go_wp2_with fail
  refine hnone.mono ?_
  rintro e w' ⟨rfl, hw⟩
  rw [hw]
  clear hw w'
  go_wp2_with fail
  rw [meets_open]
  go_wp2_with fail
  refine hopen.mono ?_
  rintro e w2 ⟨rfl, c2⟩
  clear hnone hopen C1
  go_wp2
  go_ret2
  exact ⟨rfl, c2⟩

end Go.Proofs.YtipehnojibdfeaaGreat

/- layer 15: both sides with terms; what a record seals, with the real kind and with terms. -/
namespace Go.Proofs.YtipehnojibdfeaaGreat
open Go Go.Proofs Go.RowKit

def notRec : Obj → Prop
  | .cells _ ty _ => ty ≠ 67
  | _ => True
theorem Far.setRec {w : World} {r : Nat} {cs : Array Value} (h : Blk w r 67 cs) (i : Nat) (v : Value) : Far notRec w (w.setCell ⟨r, i, none⟩ v) :=
  Far.of_grown (grownBy_set (grownBy_refl w (some r)) v) (fun k o hk ho => by
    cases hk
    rw [h] at ho; cases ho; exact fun q => q rfl)
set_option maxRecDepth 100000 in
set_option maxHeartbeats 4000000 in
theorem bothTerm_any (w : World) : Calls Tryz.prog 12 #[.int .i64 1] w fun e w' => ∃ p r1 r2, e = .returned (.tuple #[.pointer (some ⟨p, 0, none⟩), .pointer (some ⟨r1, 0, none⟩), .pointer (some ⟨r2, 0, none⟩)]) ∧ w.heap.size ≤ r1 ∧ r1 < r2 ∧
      TermPrim w' w.heap.size p 0 twoT 2 ∧ Blk w' r1 67 (recCells p (bs (textL 0)) 0 (bs (textL 1)) 0) ∧ Blk w' r2 67 (recCells p (bs (textL 1)) 0 (bs (textL 0)) 0) ∧ Below w.heap.size w w' := by
  have hn := newTerm_any w
  go_enter Tryz.func12, Tryz.ntmps12
  go_wp2_with fail
  refine hn.mono ?_
  rintro e w1 ⟨⟨p, rfl, hP1⟩, b1⟩
  clear hn
  have hk1 := key15_any w1 1 (by omega)
  go_wp2_with fail
  refine hk1.mono ?_
  rintro e w2 ⟨rfl, b2⟩
  clear hk1
  have b12 := b1.trans (b2.mono b1.size)
  have hs1 := secretT_any w2 w.heap.size p 0 [] 0 (hP1.later b2) (by simp) (by omega) (bs (List.replicate 32 (1 : Nat).toUInt8))
  rw [e1] at hs1
  clear hP1 b1
  go_wp2_with fail
  refine hs1.mono ?_
  rintro e w3 ⟨rfl, hP3, b3⟩
  clear hs1
  have b13 := b12.trans b3
  have hk2 := key15_any w3 2 (by omega)
  go_wp2_with fail
  refine hk2.mono ?_
  rintro e w4 ⟨rfl, b4⟩
  clear hk2
  have b14 := b13.trans (b4.mono b13.size)
  have hs2 := secretT_any w4 w.heap.size p 0 wT1 1 (hP3.later b4) (by simp [wT1]) (by omega) (bs (List.replicate 32 (2 : Nat).toUInt8))
  rw [e2] at hs2
  clear hP3 b12 b13
  go_wp2_with fail
  refine hs2.mono ?_
  rintro e w5 ⟨rfl, hP5, b5⟩
  clear hs2
  have b15 := b14.trans b5
  have ho1 := recOpen_any w5 p (bs (textL 0)) (bs (textL 1))
  simp only
  go_wp2_with fail
  refine ho1.mono ?_
  rintro e w6 ⟨rfl, hr6, b6⟩
  clear ho1
  have ho2 := recOpen_any w6 p (bs (textL 1)) (bs (textL 0))
  go_wp2_with fail
  refine ho2.mono ?_
  rintro e w7 ⟨rfl, hr7, b7⟩
  clear ho2
  have b16 := b15.trans (b6.mono b15.size)
  have b17 := b16.trans (b7.mono b16.size)
  go_wp2
  go_ret3
  exact ⟨_, _, _, rfl, b15.size, hr6.lt, (hP5.later b6).later b7, hr6.later b7, hr7, b17⟩

/-- what stays when a record seals or takes: blocks of other types, and other records -/
def RecKeeps (base r : Nat) (w w' : World) : Prop :=
  Below base w w' ∧ (∀ (g : Nat) (t : TypeId) (cs : Array Value), g ≠ r → Blk w g t cs → notPT (.cells cs t (0, 0)) → Blk w' g t cs)
theorem recKeeps_of {base r : Nat} {w x w2 w3 : World} {cs : Array Value} {i : Nat} {v : Value} (b1 : Below w.heap.size w x) (b2 : Below base x w2) (f2 : Far notPT x w2) (b3 : Below w2.heap.size w2 w3) (hb : base ≤ w.heap.size) (hbr : base ≤ r) (hr : Blk w3 r 67 cs) : RecKeeps base r w (w3.setCell ⟨r, i, none⟩ v) := by
  refine ⟨((b1.mono hb).trans (b2.trans (b3.mono (Nat.le_trans hb (Nat.le_trans b1.size b2.size))))).setCell hbr v, fun g t cs' hg hB hq => ?_⟩
  have h2 := (hB.later b1).far_ f2 hq
  exact (h2.later b3).far hg v

set_option maxRecDepth 100000 in
theorem recSealR (w : World) (base p n r n1 n2 : Nat) (s1 s2 text : ByteArray) (hp : RealP w base p n) (hn : n ≤ 1000000) (hb : base ≤ w.heap.size) (hbp : base ≤ p) (hbr : base ≤ r) (hr : Blk w r 67 (recCells p s1 n1 s2 n2)) (hn1 : n1 < 1099511627776) (hs1 : s1.size = 32) (ht : text.size ≤ 16384) (F H : Nat → Int) (hT : Tabs w F H) :
    Calls Tryz.prog 13 #[.pointer (some ⟨r, 0, none⟩), .string text] w fun e w' =>
      e = .returned (.tuple #[.string (bs (num8 (n1 + 1) ++ sealF F H s1.data.toList (num8 (n1 + 1)) (num8 (n1 + 1)) text.data.toList)), .int .i64 0]) ∧
      RealP w' base p (n + 1) ∧ Blk w' r 67 (recCells p s1 (n1 + 1) s2 n2) ∧ RecKeeps base r w w' := by
  have hno : (bs (num8 (n1 + 1))).size ≤ 16384 := by rw [bs_size, num8_length]; omega
  refine (recSeal_any w r p n1 n2 s1 s2 text (bs (sealF F H s1.data.toList (num8 (n1 + 1)) (num8 (n1 + 1)) text.data.toList)) hr hn1 (by rw [bs_size, sealF_length]; show text.size + 32 ≤ _; omega) (fun x w' => RealP w' base p (n + 1) ∧ Below base x w' ∧ Far notPrim x w')
    (fun x => sealReal2_any x.v base p n (hp.later x.h) hn (Nat.le_trans hb x.h.size) hbp s1 (bs (num8 (n1 + 1))) (bs (num8 (n1 + 1))) text hs1 hno hno ht F H (hT.later x.h))
    (fun x w' g t cs h hB ht => hB.far_ h.2.2 (by rcases ht with rfl | rfl <;> exact ⟨by decide, by decide⟩))).mono ?_
  rintro e w' ⟨he, x, w2, w3, ⟨hP2, c2, f2⟩, b23, rfl, hr'⟩
  have hr3 : ∃ cs, Blk w3 r 67 cs := ⟨_, ((hr.later x.h).far_ f2 ⟨by decide, by decide⟩).later b23⟩
  obtain ⟨cs3, hr3⟩ := hr3
  refine ⟨he, ?_, hr', recKeeps_of x.h c2 (f2.mono notPT_prim) b23 hb hbr hr3⟩
  exact (hP2.later b23).far_ (Far.setRec hr3 _ _) (fun _ => by show _ ≠ _; decide) (fun _ => by show _ ≠ _; decide)
end Go.Proofs.YtipehnojibdfeaaGreat

/- what a record seals with terms; what it takes, with either kind. -/
namespace Go.Proofs.YtipehnojibdfeaaGreat
open Go Go.Proofs Go.RowKit

theorem TermPrim.setRec {w : World} {base p n r i : Nat} {T : List Node} {k : Nat} {cs : Array Value} {v : Value} (h : TermPrim w base p n T k) (hr : Blk w r 67 cs) : TermPrim (w.setCell ⟨r, i, none⟩ v) base p n T k := by
  obtain ⟨t, M, h1, h2, h3, h4, h5⟩ := h
  have hf := Far.setRec hr i v
  have hs : (w.setCell ⟨r, i, none⟩ v).heap.size = w.heap.size := by simp [World.setCell]
  exact ⟨t, M, by rw [hs]; exact h1, by rw [hs]; exact h2, h3, h4.far_ hf (fun _ => by show _ ≠ _; decide) (fun _ => by show _ ≠ _; decide), h5.far_ hf (fun _ => by show _ ≠ _; decide) (fun _ => by show _ ≠ _; decide) (fun _ => by show _ ≠ _; decide) (fun _ _ => trivial)⟩
theorem RealP.setRec {w : World} {base p n r i : Nat} {cs : Array Value} {v : Value} (h : RealP w base p n) (hr : Blk w r 67 cs) : RealP (w.setCell ⟨r, i, none⟩ v) base p n :=
  PrimAt.far_ h (Far.setRec hr i v) (fun _ => by show _ ≠ _; decide) (fun _ => by show _ ≠ _; decide)

set_option maxRecDepth 100000 in
theorem recSealT (w : World) (base p n r n1 n2 : Nat) (T : List Node) (k : Nat) (key : List UInt8) (s2 : ByteArray) (text : List UInt8) (hp : TermPrim w base p n T k) (hlen : T.length ≤ 60000) (hn : n ≤ 1000000) (hbr : base ≤ r) (hr : Blk w r 67 (recCells p (bs key) n1 s2 n2)) (hn1 : n1 < 1099511627776) (hkl : key.length ≤ 65536) (ht : text.length ≤ 16384) :
    Calls Tryz.prog 13 #[.pointer (some ⟨r, 0, none⟩), .string (bs text)] w fun e w' =>
      e = .returned (.tuple #[.string (bs (num8 (n1 + 1) ++ textL (makeN T 6 [] [key, num8 (n1 + 1), num8 (n1 + 1), text]).2)), .int .i64 0]) ∧
      TermPrim w' base p (n + 1) (makeN T 6 [] [key, num8 (n1 + 1), num8 (n1 + 1), text]).1 k ∧ Blk w' r 67 (recCells p (bs key) (n1 + 1) s2 n2) ∧ RecKeeps base r w w' := by
  have hb : base ≤ w.heap.size := by obtain ⟨_, _, _, h2, _⟩ := hp; exact h2
  refine (recSeal_any w r p n1 n2 (bs key) s2 (bs text) (bs (textL (makeN T 6 [] [key, num8 (n1 + 1), num8 (n1 + 1), text]).2)) hr hn1 (by rw [bs_size, textL_length]; omega) (fun x w' => TermPrim w' base p (n + 1) (makeN T 6 [] [key, num8 (n1 + 1), num8 (n1 + 1), text]).1 k ∧ Below base x w' ∧ Far notPT x w')
    (fun x => sealT2_any x.v base p n T k (hp.later x.h) hlen hn key (num8 (n1 + 1)) (num8 (n1 + 1)) text hkl (by rw [num8_length]; omega) (by rw [num8_length]; omega) ht)
    (fun x w' g t cs h hB ht => hB.far_ h.2.2 (by rcases ht with rfl | rfl <;> exact ⟨by decide, by decide, by decide, by decide⟩))).mono ?_
  rintro e w' ⟨he, x, w2, w3, ⟨hP2, c2, f2⟩, b23, rfl, hr'⟩
  have hr3 : ∃ cs, Blk w3 r 67 cs := ⟨_, ((hr.later x.h).far_ f2 ⟨by decide, by decide, by decide, by decide⟩).later b23⟩
  obtain ⟨cs3, hr3⟩ := hr3
  exact ⟨he, (hP2.later b23).setRec hr3, hr', recKeeps_of x.h c2 f2 b23 hb hbr hr3⟩

/-- a frame: its number, and what is sealed -/
theorem frame_parts (nn l : List UInt8) (hn : nn.length = 8) : (bs (nn ++ l)).extract 0 8 = bs nn ∧ (bs (nn ++ l)).extract 8 (bs (nn ++ l)).size = bs l ∧ numIn (bs (nn ++ l)) = beNat nn := by
  refine ⟨?_, ?_, ?_⟩
  · rw [bs_take, ← hn, List.take_left]
  · rw [bs_drop _ 8 _ (by rw [bs_size]), ← hn, List.drop_left]
  · unfold numIn
    rw [bs_list, ← hn, List.take_left]
theorem beNat_num8 (n : Nat) (hn : n < 1099511627776) : beNat (num8 n) = n := by
  have e : ∀ k : Nat, (((n : Int) / 2 ^ (8 * k) % 256).toNat.toUInt8).toNat = n / 2 ^ (8 * k) % 256 := by
    intro k
    have h1 : ((n : Int) / 2 ^ (8 * k) % 256).toNat = n / 2 ^ (8 * k) % 256 := by
      have : ((n : Int) / 2 ^ (8 * k) % 256) = ((n / 2 ^ (8 * k) % 256 : Nat) : Int) := by rw [Int.natCast_emod, Int.natCast_ediv, Int.natCast_pow]; rfl
      rw [this]; rfl
    rw [h1]
    simp
  simp only [num8, numTo, List.nil_append, List.cons_append, beNat, List.foldl_cons, List.foldl_nil, e]
  omega

set_option maxRecDepth 100000 in
/-- a frame that is refused, with the real kind -/
theorem recTakeR_no (w : World) (base p n r n1 n2 : Nat) (s1 s2 f out : ByteArray) (hp : RealP w base p n) (hr : Blk w r 67 (recCells p s1 n1 s2 n2)) (hf : 8 ≤ f.size) (hf2 : f.size ≤ 9223372036854775807) (hn : n2 < numIn f)
    (hop : ∀ x : Later w, Calls Tryz.prog 62 #[.agg #[], .string s2, .string (f.extract 0 8), .string (f.extract 0 8), .string (f.extract 8 f.size)] x.v fun e w' => e = .returned (.tuple #[.string out, .int .i64 10]) ∧ Below x.v.heap.size x.v w') :
    Calls Tryz.prog 15 #[.pointer (some ⟨r, 0, none⟩), .string f] w fun e w' => e = .returned (.tuple #[.string ⟨#[]⟩, .int .i64 10]) ∧ Below w.heap.size w w' := by
  have hop2 : ∀ x : Later w, Calls Tryz.prog 11 #[.pointer (some ⟨p, 0, none⟩), .string s2, .string (f.extract 0 8), .string (f.extract 0 8), .string (f.extract 8 f.size)] x.v fun e w' => e = .returned (.tuple #[.string out, .int .i64 10]) ∧ Below x.v.heap.size x.v w' := fun x => by
    obtain ⟨j, xs, hB, hJ, hne, _⟩ := hp.later x.h
    exact openReal2_no x.v p j hB s2 _ _ _ out (hop x)
  refine (recTake_any w r p n1 n2 s1 s2 f out 10 (by omega) hr hf hf2 hn (fun x w' => Below x.heap.size x w') hop2 (fun x w' g t cs h hB _ => hB.later h)).mono ?_
  intro e w' h
  rw [if_neg (by omega)] at h
  obtain ⟨he, x, hx, _⟩ := h
  exact ⟨he, Below.step x.h hx⟩
set_option maxRecDepth 100000 in
/-- a frame that is taken, with the real kind -/
theorem recTakeR_yes (w : World) (base p n r n1 n2 : Nat) (s1 s2 f out : ByteArray) (hp : RealP w base p n) (hnn : n ≤ 1000000) (hb : base ≤ w.heap.size) (hbp : base ≤ p) (hbr : base ≤ r) (hr : Blk w r 67 (recCells p s1 n1 s2 n2)) (hf : 8 ≤ f.size) (hf2 : f.size ≤ 9223372036854775807) (hn : n2 < numIn f)
    (hop : ∀ x : Later w, Calls Tryz.prog 62 #[.agg #[], .string s2, .string (f.extract 0 8), .string (f.extract 0 8), .string (f.extract 8 f.size)] x.v fun e w' => e = .returned (.tuple #[.string out, .int .i64 0]) ∧ Below x.v.heap.size x.v w') :
    Calls Tryz.prog 15 #[.pointer (some ⟨r, 0, none⟩), .string f] w fun e w' => e = .returned (.tuple #[.string out, .int .i64 0]) ∧ RealP w' base p (n + 1) ∧ Blk w' r 67 (recCells p s1 n1 s2 (numIn f)) ∧ RecKeeps base r w w' := by
  have hop2 : ∀ x : Later w, Calls Tryz.prog 11 #[.pointer (some ⟨p, 0, none⟩), .string s2, .string (f.extract 0 8), .string (f.extract 0 8), .string (f.extract 8 f.size)] x.v fun e w' => e = .returned (.tuple #[.string out, .int .i64 0]) ∧ RealP w' base p (n + 1) ∧ Below base x.v w' ∧ Far notPrim x.v w' := fun x =>
    openReal2_of x.v base p n (hp.later x.h) hnn (Nat.le_trans hb x.h.size) hbp s2 _ _ _ out 0 (.inl rfl) (hop x)
  refine (recTake_any w r p n1 n2 s1 s2 f out 0 (by omega) hr hf hf2 hn (fun x w' => RealP w' base p (n + 1) ∧ Below base x w' ∧ Far notPrim x w') hop2 (fun x w' g t cs h hB ht => hB.far_ h.2.2 (by subst ht; exact ⟨by decide, by decide⟩))).mono ?_
  intro e w' h
  rw [if_pos rfl] at h
  obtain ⟨he, x, w2, ⟨hP2, c2, f2⟩, rfl, hr'⟩ := h
  have hr2 := (hr.later x.h).far_ f2 (⟨by decide, by decide⟩ : notPrim (.cells _ 67 (0, 0)))
  exact ⟨he, hP2.setRec hr2, hr', recKeeps_of x.h c2 (f2.mono notPT_prim) (Below.refl _ _) hb hbr hr2⟩
end Go.Proofs.YtipehnojibdfeaaGreat

/- PrimSealed with the real kind. -/
namespace Go.Proofs.YtipehnojibdfeaaGreat
open Go Go.Proofs Go.RowKit

theorem sealF_take (F K : Nat → Int) (key nonce ad text : List UInt8) : (sealF F K key nonce ad text).take text.length = turnF F K key nonce text := by
  rw [sealF, List.take_append_of_le_length (by rw [turnF_length]; exact Nat.le_refl _), List.take_of_length_le (by rw [turnF_length]; exact Nat.le_refl _)]
theorem sealF_drop (F K : Nat → Int) (key nonce ad text : List UInt8) : (sealF F K key nonce ad text).drop text.length = tagF F K key ad nonce (turnF F K key nonce text) := by
  rw [sealF, List.drop_append_of_le_length (by rw [turnF_length]; exact Nat.le_refl _), List.drop_of_length_le (by rw [turnF_length]; exact Nat.le_refl _), List.nil_append]
theorem openPost_sealF (F K : Nat → Int) (key nonce ad text : List UInt8) : OpenPost F K key nonce ad ((sealF F K key nonce ad text).take text.length) ((sealF F K key nonce ad text).drop text.length) = .tuple #[.string (bs text), .int .i64 0] := by
  rw [sealF_take, sealF_drop, OpenPost, if_pos rfl, turnF_twice]
theorem openPost_bad (F K : Nat → Int) (key nonce ad text s : List UInt8) (ht : s.take text.length = (sealF F K key nonce ad text).take text.length) (hd : s.drop text.length ≠ (sealF F K key nonce ad text).drop text.length) : OpenPost F K key nonce ad (s.take text.length) (s.drop text.length) = .tuple #[.string ⟨#[]⟩, .int .i64 10] := by
  rw [OpenPost, ht, sealF_take]
  rw [sealF_drop] at hd
  rw [if_neg (fun e => hd e.symm)]
/-- .. with one byte of the tag turned -/
theorem openPost_turned (F K : Nat → Int) (key nonce ad text : List UInt8) (at_ : Nat) (x : UInt8) (h1 : text.length ≤ at_) (h2 : at_ < text.length + 32) (hx : (sealF F K key nonce ad text)[at_]? ≠ some x) :
    OpenPost F K key nonce ad (((sealF F K key nonce ad text).set at_ x).take text.length) (((sealF F K key nonce ad text).set at_ x).drop text.length) = .tuple #[.string ⟨#[]⟩, .int .i64 10] := by
  refine openPost_bad F K key nonce ad text _ ?_ ?_
  · apply List.ext_getElem?
    intro i
    rw [List.getElem?_take, List.getElem?_take]
    by_cases hi : i < text.length
    · rw [if_pos hi, if_pos hi, List.getElem?_set_ne (by omega)]
    · rw [if_neg hi, if_neg hi]
  · intro h
    have := congrArg (·[at_ - text.length]?) h
    simp only [List.getElem?_drop] at this
    rw [show text.length + (at_ - text.length) = at_ by omega, List.getElem?_set_self (by rw [sealF_length]; omega)] at this
    exact hx this.symm

set_option maxRecDepth 100000 in
set_option maxHeartbeats 2000000 in
/-- Open that is refused: nothing that was there is turned -/
theorem openReal_no (w : World) (base p n : Nat) (hp : RealPrim w base p n) (key nonce ad sealed out : ByteArray)
    (hopen : Calls Tryz.prog 62 #[.agg #[], .string key, .string nonce, .string ad, .string sealed] w fun e w' => e = .returned (.tuple #[.string out, .int .i64 10]) ∧ Below w.heap.size w w') :
    Calls Tryz.prog 11 #[.pointer (some ⟨p, 0, none⟩), .string key, .string nonce, .string ad, .string sealed] w fun e w' => e = .returned (.tuple #[.string out, .int .i64 10]) ∧ Below w.heap.size w w' := by
  obtain ⟨j, xs, hB, hJ, hne⟩ := hp
  have hnone := none_any w p j hB
  have C1 : w.cell? ⟨p, 1, none⟩ = some (.iface 75 (.agg #[])) := hB.cell 1
  clear hB hJ hne
  go_enter Tryz.func11, Tryz.ntmps11
  go_wp2_with fail
  refine hnone.mono ?_
  rintro e w' ⟨rfl, hw⟩
  rw [hw]
  clear hw w'
  go_wp2_with fail
  rw [meets_open]
  go_wp2_with fail
  refine hopen.mono ?_
  rintro e w2 ⟨rfl, c2⟩
  clear hnone hopen C1
  go_wp2
  go_ret2
  exact ⟨rfl, c2⟩

/-- the cells of a 'Keys' -/
structure KeysAre (K : Array Value) (terms : Bool) (A B : List UInt8) (nonce ad text : ByteArray) (at_ by_ : Nat) (other : Bool) (on oa : ByteArray) : Prop where
  size : K.size = 73
  c0 : K[0]? = some (.bool terms)
  lA : A.length = 32
  lB : B.length = 32
  cA : ∀ j (h : j < A.length), K[1 + j]? = some (.int .u8 (A[j].toNat : Int))
  cB : ∀ j (h : j < B.length), K[33 + j]? = some (.int .u8 (B[j].toNat : Int))
  c3 : K[65]? = some (.string nonce)
  c4 : K[66]? = some (.string ad)
  c5 : K[67]? = some (.string text)
  c6 : K[68]? = some (.int .u8 (at_ : Int))
  c7 : K[69]? = some (.int .u8 (by_ : Int))
  c8 : K[70]? = some (.bool other)
  c9 : K[71]? = some (.string on)
  c10 : K[72]? = some (.string oa)
  hat : at_ < 256
  hby : by_ < 256
theorem u8_key (y : Nat) (h : y < 256) : (y.toUInt8).toNat = y := by simp; omega
theorem keysInfo : (Tryz.prog.info? 24).map (·.size) = some 73 := by kernel_rfl
theorem conv32 {w : World} {g off : Nat} {t : TypeId} {K : Array Value} (hB : Blk w g t K) {L : List UInt8} (hL : L.length = 32) (hc : ∀ j (h : j < L.length), K[off + j]? = some (.int .u8 (L[j].toNat : Int))) :
    (convert 30 9 (.slice (some ⟨g, off, none⟩) 32 32)).run Tryz.prog w = .ok (.string (bs L)) w := by
  have h := run_convert_bytes_back (P := Tryz.prog) w 30 9 5 ⟨g, off, none⟩ 32 L Tryz.underlying30 Tryz.underlying5 Tryz.underlying9 (fun j hj => by
    rw [addr_add, hB.cell (off + j)]; exact hc j hj)
  rw [hL] at h
  exact h

set_option maxRecDepth 100000 in
set_option maxHeartbeats 8000000 in
theorem sealedReal_any (w : World) (K : Array Value) (A B : List UInt8) (nonce ad text : ByteArray) (at_ by_ : Nat) (other : Bool) (on oa : ByteArray) (hK : KeysAre K false A B nonce ad text at_ by_ other on oa) (F H : Nat → Int) (hT : Tabs w F H) :
    Calls Tryz.prog 3 #[.agg K] w fun e w' => e = .returned (.bool true) ∧ Below w.heap.size w w' := by
  obtain ⟨w1, hw1⟩ : ∃ w1, w1 = w.alloc (.cells K 24) := ⟨_, rfl⟩
  have hB1 : Blk w1 w.heap.size 24 K := by rw [hw1]; exact Blk.new _ _ _
  have b1 : Below w.heap.size w w1 := by rw [hw1]; exact (Below.refl _ _).alloc (Nat.le_refl _) _
  have hin : (Tryz.prog.info? 24).map (·.size) = some K.size := by rw [hK.size]; exact keysInfo
  have HIN : Hid ((Tryz.prog.info? 24).map (·.size) = some K.size) := hin
  have ck := kitReal_any w1 K hK.c0
  have HW1 : Hid (w1 = w.alloc (.cells K 24)) := hw1
  have hB0 : Blk (w.alloc (.cells K 24)) w.heap.size 24 K := Blk.new _ _ _
  have HLT : Hid (w.heap.size < w1.heap.size) := hB1.lt
  clear hw1 hin
  go_enter Tryz.func3, Tryz.ntmps3
  go_wp2_with (with_reducible refine wpList_load_blk (o := ⟨some 21, .load _ _, _, _, _, _⟩) rfl 24 (.tmp 1) rfl w.heap.size rfl 24 K _ hB0 Tryz.underlying24 rfl HIN.out ?_)
  rw [← HW1.out]
  refine ck.mono ?_
  rintro e w2 ⟨⟨p, rfl, hwp, hP2⟩, b2⟩
  clear ck HW1 hB0
  have cw := works10_any w2
  go_wp2_with fail
  refine cw.mono ?_
  rintro e w3 ⟨rfl, b3⟩
  clear cw
  have hB3 := (hB1.later b2).later b3
  have hP3 := hP2.later b3
  have b13 := Below.step (Below.step b1 b2) b3
  have HB13 : Hid (w1.heap.size ≤ w3.heap.size) := Nat.le_trans b2.size b3.size
  have co := odd_any w3 K false nonce ad text on oa hK.c0 hK.c3 hK.c4 hK.c5 hK.c9 hK.c10 false rfl
  clear hB1 b2 b3 hP2
  go_wp2_with (with_reducible refine wpList_load_blk (o := ⟨some 29, .load _ _, _, _, _, _⟩) rfl 24 (.tmp 1) rfl w.heap.size rfl 24 K _ hB3 Tryz.underlying24 rfl HIN.out ?_)
  refine co.mono ?_
  rintro e w4 ⟨rfl, b4⟩
  clear co HIN
  have hB4 := hB3.later b4
  have hP4 := hP3.later b4
  have b14 := Below.step b13 b4
  have HB14 : Hid (w1.heap.size ≤ w4.heap.size) := Nat.le_trans HB13.out b4.size
  clear hB3 hP3 b13 b4 b1
  obtain ⟨sA, hsA⟩ : ∃ s, s = bs A := ⟨_, rfl⟩
  obtain ⟨sB, hsB⟩ : ∃ s, s = bs B := ⟨_, rfl⟩
  have kA : ∀ x : Later w4, (convert 30 9 (.slice (some ⟨w.heap.size, 1, none⟩) 32 32)).run Tryz.prog x.v = .ok (.string sA) x.v := fun x => by rw [hsA]; exact conv32 (hB4.later x.h) hK.lA hK.cA
  have kB : ∀ x : Later w4, (convert 30 9 (.slice (some ⟨w.heap.size, 33, none⟩) 32 32)).run Tryz.prog x.v = .ok (.string sB) x.v := fun x => by rw [hsB]; exact conv32 (hB4.later x.h) hK.lB hK.cB
  have hlA : sA.size = 32 := by rw [hsA, bs_size, hK.lA]
  have hlB : sB.size = 32 := by rw [hsB, bs_size, hK.lB]
  obtain ⟨j4, xs4, hPB, hPJ, hPne⟩ := hP4
  have cA : ∀ x : Later w4, Calls Tryz.prog 9 #[.pointer (some ⟨p, 0, none⟩), .string sA] x.v fun e w' => e = .returned (.string sA) ∧ Below x.v.heap.size x.v w' := fun x => secretReal_any x.v p j4 (hPB.later x.h) sA hlA
  have cB : ∀ x : Later w4, Calls Tryz.prog 9 #[.pointer (some ⟨p, 0, none⟩), .string sB] x.v fun e w' => e = .returned (.string sB) ∧ Below x.v.heap.size x.v w' := fun x => secretReal_any x.v p j4 (hPB.later x.h) sB hlB
  have hP4 : RealPrim w4 w1.heap.size p 0 := ⟨j4, xs4, hPB, hPJ, hPne⟩
  clear hPB hPJ hPne hsA hsB
  go_wp2_with fail
  refine wp_region_later (by kernel_rfl) (by kernel_rfl) ?_
  iterate 4 (go_big_quiet_step (fail))
  go_big_quiet_step ((go_at_call 9; exact later_of (cA _)))
  iterate 4 (go_big_quiet_step (fail))
  go_big_quiet_step ((go_at_call 9; exact later_of (cB _)))
  repeat (go_big_quiet_step (fail))
  refine wpQuiet_nil ?_
  intro _ hw'
  obtain ⟨x, hw''⟩ := hw'
  subst hw''
  have hB5 := hB4.later x.h
  have hP5 := hP4.later x.h
  have b15 := Below.step b14 x.h
  have HB15 : Hid (w1.heap.size ≤ x.v.heap.size) := Nat.le_trans HB14.out x.h.size
  clear kA kB cA cB hB4 hP4 b14
  obtain ⟨w5, x⟩ := x
  simp only at *
  clear x
  have C3 : w5.cell? ⟨w.heap.size, 65, none⟩ = some (.string nonce) := (hB5.cell 65).trans hK.c3
  have C4 : w5.cell? ⟨w.heap.size, 66, none⟩ = some (.string ad) := (hB5.cell 66).trans hK.c4
  have C5 : w5.cell? ⟨w.heap.size, 67, none⟩ = some (.string text) := (hB5.cell 67).trans hK.c5
  have hbase : w.heap.size < w1.heap.size := HLT.out
  by_cases hl : nonce.size ≤ 16384 ∧ ad.size ≤ 16384 ∧ text.size ≤ 16384
  · obtain ⟨l3, l4, l5⟩ := hl
    have d3 : decide (16384 < (nonce.size : Int)) = false := by simp; omega
    have d4 : decide (16384 < (ad.size : Int)) = false := by simp; omega
    have d5 : decide (16384 < (text.size : Int)) = false := by simp; omega
    have hbw5 : w1.heap.size ≤ w5.heap.size := HB15.out
    have hsp := sealReal_any w5 w1.heap.size p 0 hP5 (by omega) hbw5 hwp sA nonce ad text hlA l3 l4 l5 F H (hT.later b15)
    obtain ⟨S, hS⟩ : ∃ S, S = sealF F H sA.data.toList nonce.data.toList ad.data.toList text.data.toList := ⟨_, rfl⟩
    have hSl : S.length = text.size + 32 := by rw [hS, sealF_length]; rfl
    rw [← hS] at hsp
    obtain ⟨sS, hsS⟩ : ∃ sS, sS = bs S := ⟨_, rfl⟩
    have hsz : sS.size = text.size + 32 := by rw [hsS, bs_size, hSl]
    have hsSl : sS.data.toList = S := by rw [hsS]; rfl
    rw [← hsS] at hsp
    have HS : Hid (S = sealF F H sA.data.toList nonce.data.toList ad.data.toList text.data.toList) := hS
    have HSZ : Hid (sS.size = text.size + 32) := hsz
    have HSL : Hid (sS.data.toList = S) := hsSl
    have HSLL : Hid (S.length = text.size + 32) := hSl
    clear hS hsS hsz hsSl hSl
    go_wp2_with fail
    refine hsp.mono ?_
    rintro e w6 ⟨rfl, hP6, c6⟩
    clear hsp C3 C4 C5
    have hB6 := hB5.below c6 hbase
    have b16 : Below w.heap.size w w6 := b15.trans (c6.mono (by omega))
    have C0 : w6.cell? ⟨w.heap.size, 0, none⟩ = some (.bool false) := (hB6.cell 0).trans hK.c0
    have C3 : w6.cell? ⟨w.heap.size, 65, none⟩ = some (.string nonce) := (hB6.cell 65).trans hK.c3
    have C4 : w6.cell? ⟨w.heap.size, 66, none⟩ = some (.string ad) := (hB6.cell 66).trans hK.c4
    have C5 : w6.cell? ⟨w.heap.size, 67, none⟩ = some (.string text) := (hB6.cell 67).trans hK.c5
    have hop := plainOpen_any w6 sA nonce ad sS text.size hlA (by omega) (by omega) HSZ.out l5 F H (hT.later b16)
    rw [HSL.out, HS.out, show text.size = text.data.toList.length from rfl, openPost_sealF, bs_of] at hop
    have ho := openReal_of w6 w1.heap.size p 1 hP6 (by omega) (Nat.le_trans hbw5 c6.size) hwp sA nonce ad sS text 0 (.inl rfl) hop
    clear hop b15 hB5 hP5
    go_wp2_with fail
    refine ho.mono ?_
    rintro e w7 ⟨rfl, ⟨m7, hm7, hP7⟩, c7⟩
    clear ho C0 C3 C4 C5
    have hB7 := hB6.below c7 hbase
    have b17 : Below w.heap.size w w7 := b16.trans (c7.mono (by omega))
    have C0 : w7.cell? ⟨w.heap.size, 0, none⟩ = some (.bool false) := (hB7.cell 0).trans hK.c0
    have C3 : w7.cell? ⟨w.heap.size, 65, none⟩ = some (.string nonce) := (hB7.cell 65).trans hK.c3
    have C4 : w7.cell? ⟨w.heap.size, 66, none⟩ = some (.string ad) := (hB7.cell 66).trans hK.c4
    have C5 : w7.cell? ⟨w.heap.size, 67, none⟩ = some (.string text) := (hB7.cell 67).trans hK.c5
    have C6 : w7.cell? ⟨w.heap.size, 68, none⟩ = some (.int .u8 (at_ : Int)) := (hB7.cell 68).trans hK.c6
    have C7 : w7.cell? ⟨w.heap.size, 69, none⟩ = some (.int .u8 (by_ : Int)) := (hB7.cell 69).trans hK.c7
    have hkd : ((sS.size : Int) != (text.size : Int) + 32) = false := by rw [bne_eq_false_iff_eq]; have := HSZ.out; omega
    clear b16 hB6 hP6
    by_cases hy : by_ = 0
    · have hy0 : ((by_ : Int) == 0) = true := by rw [beq_iff_eq]; omega
      go_wp2_with fail
      go_ret
      exact ⟨rfl, b17⟩
    · have hy0 : ((by_ : Int) == 0) = false := by rw [beq_eq_false_iff_ne]; omega
      have kb := fun W => Lib.run_convert_string_bytes (P := Tryz.prog) W 9 30 5 sS (u := .string) Tryz.underlying9 Tryz.underlying30 Tryz.underlying5
      have hC8 := CRow.bytes w7 5 sS
      have q8 : Below w7.heap.size w7 (Lib.bytesWorld w7 5 sS) := ⟨rfl, rfl, rfl, by rw [Lib.bytesWorld_size]; omega, fun i hi => Lib.bytesWorld_at_old _ _ _ i hi⟩
      have hsb : sS.size ≤ 20000 := by have := HSZ.out; omega
      have hsb2 : 32 ≤ sS.size := by have := HSZ.out; omega
      have hat0 : (at_ : Int) < 256 := by have := hK.hat; omega
      have C6' : (Lib.bytesWorld w7 5 sS).cell? ⟨w.heap.size, 68, none⟩ = some (.int .u8 (at_ : Int)) := Below.cell_some q8 C6
      go_wp2_with fail
      obtain ⟨cap0, hcap0⟩ : ∃ c, c = grownCap w7 sS.size 0 5 := ⟨_, rfl⟩
      rw [← hcap0]
      obtain ⟨w8, hw8⟩ : ∃ w8, w8 = Lib.bytesWorld w7 5 sS := ⟨_, rfl⟩
      rw [← hw8] at hC8 q8 ⊢
      obtain ⟨ix, hix⟩ : ∃ ix : Nat, ix = sS.size - 1 - at_ % 32 := ⟨_, rfl⟩
      have hI : ((sS.size : Int) - 1 - (at_ : Int) % 32) = (ix : Int) := by omega
      rw [hI]
      have hix1 : ix < sS.size := by omega
      have hix2 : text.size ≤ ix := by have := HSZ.out; omega
      have HIX2 : Hid (ix < text.size + 32 ∧ text.size ≤ ix) := ⟨by have := HSZ.out; omega, hix2⟩
      have hB8 := hB7.later q8
      have hP8 := hP7.later q8
      have hixS : ix < S.length := by have := HSLL.out; have := HSZ.out; omega
      obtain ⟨xv, hxv⟩ : ∃ xv : Nat, xv = S[ix].toNat := ⟨_, rfl⟩
      have hx256 : xv < 256 := by rw [hxv]; exact S[ix].toNat_lt
      have hbyt : byteAt sS.data.toList ix = (xv : Int) := by rw [HSL.out, hxv]; exact byteAt_get _ _ hixS
      have D8 : w8.cell? ⟨w7.heap.size, ix, none⟩ = some (.int .u8 (xv : Int)) := by
        have h := hC8.cell hix1
        rw [hbyt] at h
        exact h
      have F8 : w8.frozen? ⟨w7.heap.size, ix, none⟩ = false := hC8.frozen hix1
      have E7 : w8.cell? ⟨w.heap.size, 69, none⟩ = some (.int .u8 (by_ : Int)) := (hB8.cell 69).trans hK.c7
      have hxor : bits BinOp.xor IntKind.u8 (xv : Int) (by_ : Int) = ((xv ^^^ by_ : Nat) : Int) := u8_xor xv by_ hx256 hK.hby
      have HIX : Hid (ix < S.length) := hixS
      have HXV : Hid (xv = S[ix].toNat) := hxv
      clear hcap0 hw8 hI hix C0 C3 C4 C5 C6 C7 C6' kb hkd hxv hbyt hixS hat0
      go_wp2_with fail
      go_region
      obtain ⟨w9, hw9⟩ : ∃ w9, w9 = (w8.setCell ⟨w7.heap.size, ix, none⟩ (.int .u8 ((xv ^^^ by_ : Nat) : Int))).drew := ⟨_, rfl⟩
      have hlt97 : w.heap.size < w7.heap.size := hB7.lt
      have hC9 : CRow w9 w7.heap.size 5 sS.size (fun i => if i = ix then .int .u8 ((xv ^^^ by_ : Nat) : Int) else .int .u8 (byteAt sS.data.toList i)) := by rw [hw9]; exact hC8.set ix _
      have q9 : Below w7.heap.size w7 w9 := by
        rw [hw9]
        have h := q8.setCell (show w7.heap.size ≤ (⟨w7.heap.size, ix, none⟩ : Addr).block from Nat.le_refl _) (.int .u8 ((xv ^^^ by_ : Nat) : Int))
        exact ⟨h.os, h.tape, h.output, h.size, h.block⟩
      rw [← hw9]
      have hB9 := hB7.later q9
      have hP9 := hP7.later q9
      have b19 := Below.step b17 q9
      have hy8 : xv ^^^ by_ < 256 := Nat.xor_lt_two_pow (n := 8) hx256 hK.hby
      obtain ⟨X8, hX8⟩ : ∃ X8 : UInt8, X8 = (xv ^^^ by_).toUInt8 := ⟨_, rfl⟩
      have hXn : X8.toNat = xv ^^^ by_ := by rw [hX8]; exact u8_key _ hy8
      have hXne : S[ix]? ≠ some X8 := by
        intro h
        rw [List.getElem?_eq_getElem HIX.out] at h
        have h2 : xv = xv ^^^ by_ := by rw [← hXn, ← Option.some.inj h]; exact HXV.out
        have h3 : (xv ^^^ (xv ^^^ by_)) = xv ^^^ xv := by rw [← h2]
        rw [← Nat.xor_assoc, Nat.xor_self, Nat.zero_xor] at h3
        exact hy h3
      have kc := run_convert_bytes_back (P := Tryz.prog) w9 30 9 5 ⟨w7.heap.size, 0, none⟩ cap0 (S.set ix X8) Tryz.underlying30 Tryz.underlying5 Tryz.underlying9 (fun j hj => by
        have hjS : j < S.length := by simpa using hj
        rw [addr_add, Nat.zero_add, hC9.cell (i := j) (by have := HSLL.out; have := HSZ.out; omega)]
        by_cases e : j = ix
        · subst e
          simp [hXn]
        · rw [if_neg e, HSL.out, byteAt_get _ _ hjS, List.getElem_set_ne (Ne.symm e)])
      have hlS : (S.set ix X8).length = sS.size := by rw [List.length_set]; have := HSLL.out; have := HSZ.out; omega
      rw [hlS] at kc
      obtain ⟨sT, hsT⟩ : ∃ sT : ByteArray, sT = ⟨(S.set ix X8).toArray⟩ := ⟨_, rfl⟩
      rw [← hsT] at kc
      have hop2 := plainOpen_any w9 sA nonce ad sT text.size hlA (by omega) (by omega) (by rw [hsT]; show (S.set ix X8).toArray.size = _; simp; exact HSLL.out) l5 F H (hT.later b19)
      have hsTl : sT.data.toList = S.set ix X8 := by rw [hsT]
      have hbad := openPost_turned F H sA.data.toList nonce.data.toList ad.data.toList text.data.toList ix X8 HIX2.out.2 HIX2.out.1 (by rw [← HS.out]; exact hXne)
      rw [← HS.out] at hbad
      rw [hsTl, show text.size = text.data.toList.length from rfl, hbad] at hop2
      have ho2 := openReal_no w9 w1.heap.size p m7 hP9 sA nonce ad sT ⟨#[]⟩ hop2
      have C3 : w9.cell? ⟨w.heap.size, 65, none⟩ = some (.string nonce) := (hB9.cell 65).trans hK.c3
      have C4 : w9.cell? ⟨w.heap.size, 66, none⟩ = some (.string ad) := (hB9.cell 66).trans hK.c4
      clear hw9 hC9 hC8 q8 q9 D8 F8 E7 hxor hop2 hsTl hbad hlS hsT hXne hXn hX8 hy8 hB7 hP7 hB8 hP8 b17 hix1 hix2
      go_wp2_with fail
      refine ho2.mono ?_
      rintro e w10 ⟨rfl, b10⟩
      clear ho2 kc C3 C4
      have hB10 := hB9.later b10
      have hP10 := hP9.later b10
      have b20 := Below.step b19 b10
      obtain ⟨sU, hsU⟩ : ∃ sU, sU = sS.extract 0 31 := ⟨_, rfl⟩
      have hsUs : sU.size < 32 := by rw [hsU]; simp [ByteArray.size_extract]; omega
      have hmin : min (sS.size : Int) 31 = 31 := by omega
      have L3 := later_cell (show w10.cell? ⟨w.heap.size, 65, none⟩ = some (.string nonce) from (hB10.cell 65).trans hK.c3)
      have L4 := later_cell (show w10.cell? ⟨w.heap.size, 66, none⟩ = some (.string ad) from (hB10.cell 66).trans hK.c4)
      have ho3 : ∀ x : Later w10, Calls Tryz.prog 11 #[.pointer (some ⟨p, 0, none⟩), .string sA, .string nonce, .string ad, .string (sS.extract 0 31)] x.v fun e w' => e = .returned (.tuple #[.string ⟨#[]⟩, .int .i64 10]) ∧ Below x.v.heap.size x.v w' := fun x => openReal_no x.v w1.heap.size p m7 (hP10.later x.h) sA nonce ad _ ⟨#[]⟩ (plainOpen_bad x.v sA nonce ad _ hlA (.inl (by rw [← hsU]; exact hsUs)) (by rw [← hsU]; omega))
      clear hsU hsUs hB9 hP9 b19
      go_wp2_with fail
      refine wp_region_later (by kernel_rfl) (by kernel_rfl) ?_
      iterate 11 (go_big_quiet_step (fail))
      go_big_quiet_step ((go_at_call 11; exact later_of (ho3 _)))
      repeat (go_big_quiet_step (fail))
      refine wpQuiet_nil ?_
      intro _ hw'
      obtain ⟨x, hw''⟩ := hw'
      subst hw''
      go_wp2
      go_ret
      exact ⟨rfl, Below.step b20 x.h⟩
  · have hnn : Calls Tryz.prog 27 #[.pointer (some ⟨p, 0, none⟩)] w5 fun e w' => e = .returned (.bool false) ∧ w' = w5 := by
      obtain ⟨j5, xs5, hPB, _, _⟩ := hP5
      exact none_any w5 p j5 hPB
    have hsl := seal_long w5 p sA nonce ad text (by simp [longL]; omega) hnn
    have hnil : (⟨#[]⟩ : ByteArray).toList.isEmpty = true := by rw [Lib.toList_data]; rfl
    by_cases h3 : 16384 < nonce.size
    · have d3 : decide (16384 < (nonce.size : Int)) = true := by simp; omega
      clear hl
      go_wp2_with fail
      refine hsl.mono ?_
      rintro e w6 ⟨rfl, b6⟩
      clear hsl hnn
      have hB6 := hB5.later b6
      have C3 : w6.cell? ⟨w.heap.size, 65, none⟩ = some (.string nonce) := (hB6.cell 65).trans hK.c3
      go_wp2
      go_ret
      exact ⟨rfl, Below.step b15 b6⟩
    · have d3 : decide (16384 < (nonce.size : Int)) = false := by simp; omega
      by_cases h4 : 16384 < ad.size
      · have d4 : decide (16384 < (ad.size : Int)) = true := by simp; omega
        clear hl
        go_wp2_with fail
        refine hsl.mono ?_
        rintro e w6 ⟨rfl, b6⟩
        clear hsl hnn
        have hB6 := hB5.later b6
        have C3 : w6.cell? ⟨w.heap.size, 65, none⟩ = some (.string nonce) := (hB6.cell 65).trans hK.c3
        have C4 : w6.cell? ⟨w.heap.size, 66, none⟩ = some (.string ad) := (hB6.cell 66).trans hK.c4
        go_wp2
        go_ret
        exact ⟨rfl, Below.step b15 b6⟩
      · have d4 : decide (16384 < (ad.size : Int)) = false := by simp; omega
        have d5 : decide (16384 < (text.size : Int)) = true := by simp; omega
        clear hl
        go_wp2_with fail
        refine hsl.mono ?_
        rintro e w6 ⟨rfl, b6⟩
        clear hsl hnn
        have hB6 := hB5.later b6
        have C3 : w6.cell? ⟨w.heap.size, 65, none⟩ = some (.string nonce) := (hB6.cell 65).trans hK.c3
        have C4 : w6.cell? ⟨w.heap.size, 66, none⟩ = some (.string ad) := (hB6.cell 66).trans hK.c4
        have C5 : w6.cell? ⟨w.heap.size, 67, none⟩ = some (.string text) := (hB6.cell 67).trans hK.c5
        go_wp2
        go_ret
        exact ⟨rfl, Below.step b15 b6⟩
end Go.Proofs.YtipehnojibdfeaaGreat
