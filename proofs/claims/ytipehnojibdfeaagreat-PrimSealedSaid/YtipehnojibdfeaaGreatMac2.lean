/- Contracts of mac's Extract, Expand, Equal: each computes its Lean twin. -/
import Derived.Test.YtipehnojibdfeaaGreatMac1
import Derived.Test.YtipehnojibdfeaaGreatBuild
namespace Go.Proofs.YtipehnojibdfeaaGreat
open Go Go.Proofs Go.RowKit

theorem bytes_eta (s : ByteArray) : (⟨s.data.toList.toArray⟩ : ByteArray) = s := by cases s; rfl

theorem extract_take (l : List UInt8) (n : Nat) : (⟨l.toArray⟩ : ByteArray).extract 0 n = ⟨(l.take n).toArray⟩ := by
  apply ByteArray.ext
  simp

set_option maxHeartbeats 1000000 in
theorem extract_any (w : World) (salt secret : ByteArray) (hs : salt.size ≤ 140737488351232) (hk : secret.size ≤ 100000000000000) (F K : Nat → Int) (hT : Tabs w F K) :
    Calls Tryz.prog 86 #[.string salt, .string secret] w fun e w' => e = .returned (.string ⟨(hmacF F K salt.data.toList secret.data.toList).toArray⟩) ∧ Below w.heap.size w w' := by
  have hcat : catS [secret] = secret.data.toList := by simp [catS]
  have hsl : secret.data.toList.length = secret.size := rfl
  have hc := hmac_any (w.alloc (.cells #[.string secret] 9)) salt [secret] (some ⟨w.heap.size, 0, none⟩) 1 1 hs (reads_one w (.string secret) 9) (by omega) (by rw [hcat]; omega) (by omega) F K (hT.later ((Below.refl _ _).alloc (Nat.le_refl _) _))
  rw [hcat] at hc
  have HC : Hid (Calls Tryz.prog 87 #[.string salt, .slice (some ⟨w.heap.size, 0, none⟩) 1 1] (w.alloc (.cells #[.string secret] 9)) fun e w' => e = .returned (.string ⟨(hmacF F K salt.data.toList secret.data.toList).toArray⟩) ∧ Below (w.alloc (.cells #[.string secret] 9)).heap.size (w.alloc (.cells #[.string secret] 9)) w') := hc
  clear hc hcat hsl hT
  go_enter Tryz.func86, Tryz.ntmps86
  go_wp2_with fail
  refine HC.out.mono ?_
  rintro e w1 ⟨rfl, hb1⟩
  clear HC
  go_wp2
  go_ret
  exact ⟨rfl, ((Below.refl _ _).alloc (Nat.le_refl _) _).trans (hb1.mono (by simp))⟩

theorem byte_string (w : World) (x : Int) (h0 : 0 ≤ x) (h1 : x < 256) :
    (convert 30 9 (.slice (some ⟨w.heap.size, 0, none⟩) 1 1)).run Tryz.prog (w.alloc (.cells #[.int .u8 x] 5)) = .ok (.string ⟨#[x.toNat.toUInt8]⟩) (w.alloc (.cells #[.int .u8 x] 5)) := by
  have h := run_convert_bytes_back (P := Tryz.prog) (w.alloc (.cells #[.int .u8 x] 5)) 30 9 5 ⟨w.heap.size, 0, none⟩ 1 [x.toNat.toUInt8] Tryz.underlying30 Tryz.underlying5 Tryz.underlying9 (by
    intro j hj
    have : j = 0 := by simp at hj; omega
    subst this
    rw [show (([x.toNat.toUInt8] : List UInt8)[0].toNat : Int) = x from toUInt8_int ⟨h0, h1⟩]
    simp [Addr.add])
  exact h

/-- the parts of what Expand makes -/
def expT (F K : Nat → Int) (key info : List UInt8) : Nat → List UInt8
  | 0 => []
  | i + 1 => hmacF F K key (expT F K key info i ++ info ++ [((i + 1) % 256).toUInt8])
def expAll (F K : Nat → Int) (key info : List UInt8) : Nat → List UInt8
  | 0 => []
  | i + 1 => expAll F K key info i ++ expT F K key info (i + 1)
def expandF (F K : Nat → Int) (key info : List UInt8) (n : Nat) : List UInt8 := (expAll F K key info ((n + 31) / 32)).take n
theorem expT_length (F K : Nat → Int) (key info : List UInt8) (i : Nat) : (expT F K key info (i + 1)).length = 32 := hmacF_length _ _ _ _
theorem expT_le (F K : Nat → Int) (key info : List UInt8) (i : Nat) : (expT F K key info i).length ≤ 32 := by
  cases i with
  | zero => simp [expT]
  | succ i => rw [expT_length]; omega
theorem expAll_length (F K : Nat → Int) (key info : List UInt8) (i : Nat) : (expAll F K key info i).length = 32 * i := by
  induction i with
  | zero => rfl
  | succ i ih => rw [expAll, List.length_append, ih, expT_length]; omega
theorem expandF_length (F K : Nat → Int) (key info : List UInt8) (n : Nat) : (expandF F K key info n).length = n := by
  rw [expandF, List.length_take, expAll_length]; omega

theorem builder_later {T e : TypeId} {B b : Nat} {bs : List Value} {w w' : World} (h : Lib.IsBuilder T e B b bs w) (hb : Below w.heap.size w w') : Lib.IsBuilder T e B b bs w' := by
  rcases h with ⟨h1, v, h2, h3, h4⟩ | ⟨h1, v, h2, h3, h4⟩
  · exact .inl ⟨h1, v, Blk.later h2 hb, ownsRow_later h3 hb, h4⟩
  · exact .inr ⟨h1, v, Blk.later h2 hb, ownsRow_later h3 hb, h4⟩

def bufLen (b : Nat) (w : World) : Nat := match w.cell? ⟨b, 1, none⟩ with
  | some (.slice _ l _) => l
  | _ => 0
theorem bufLen_of {T e : TypeId} {B b : Nat} {bs : List Value} {w : World} (h : Lib.IsBuilder T e B b bs w) : bufLen b w = bs.length := by
  have key : ∀ p, Lib.BuilderAt T e B b p bs w → bufLen b w = bs.length := by
    rintro p ⟨_, v, hb, hown, _⟩
    have hc : w.cell? ⟨b, 1, none⟩ = some v := by rw [Lib.cell_of_heap hb]; rfl
    rcases hown.2 with ⟨rfl, h0⟩ | ⟨g, cap, cur, rfl, _⟩
    · simp [bufLen, hc, h0]
    · simp [bufLen, hc]
  rcases h with h | h <;> exact key _ h

set_option maxRecDepth 100000 in
set_option maxHeartbeats 4000000 in
theorem expand_any (w : World) (key info : ByteArray) (n : Nat) (hk : key.size ≤ 140737488351232) (hi : info.size ≤ 1000000) (hn : n ≤ 8160) (F K : Nat → Int) (hT : Tabs w F K) :
    Calls Tryz.prog 85 #[.string key, .string info, .int .i64 n] w fun e w' => e = .returned (.tuple #[.string ⟨(expandF F K key.data.toList info.data.toList n).toArray⟩, .int .i64 0]) ∧ Below w.heap.size w w' := by
  have hd0 : decide ((n : Int) < 0) = false := by simp
  have hd1 : decide (8160 < (n : Int)) = false := by simp; omega
  go_enter Tryz.func85, Tryz.ntmps85
  go_wp2_with fail
  go_loopw [9, 10] (fun s i wr => ∃ k : Nat, k ≤ (n + 31) / 32 ∧ s = .string ⟨(expT F K key.data.toList info.data.toList k).toArray⟩ ∧ i = .int .u8 (((k + 1) % 256 : Nat) : Int) ∧ Lib.IsBuilder 136 5 w.heap.size w.heap.size (Lib.byteCells (expAll F K key.data.toList info.data.toList k)) wr ∧ Below w.heap.size w wr)
    (fun _ _ wr => n + 32 - bufLen w.heap.size wr)
  case atStart => exact ⟨0, by omega, rfl, rfl, .inl ⟨Nat.le_refl _, .slice none 0 0, heap_alloc_new w _, World.ownsRow_nil _ _ _ _, by simp [Value.ownBlock]⟩, (Below.refl _ _).alloc (Nat.le_refl _) _⟩
  case round =>
    obtain ⟨k, hk', rfl, rfl, hB, hb⟩ := hrel
    have hBl := bufLen_of hB
    rw [Lib.byteCells_length, expAll_length] at hBl
    obtain ⟨kb, hkb⟩ : ∃ kb, kb = key.data.toList := ⟨_, rfl⟩
    obtain ⟨ib, hib⟩ : ∃ ib, ib = info.data.toList := ⟨_, rfl⟩
    rw [← hkb, ← hib] at hB
    simp only [← hkb, ← hib]
    have hal := expAll_length F K kb ib k
    have hll : (Lib.byteCells (expAll F K kb ib k)).length = 32 * k := by rw [Lib.byteCells_length, hal]
    have HBL : Hid (bufLen w.heap.size wr = 32 * k) := hBl
    have HKB : Hid (kb = key.data.toList) := hkb
    have HIB : Hid (ib = info.data.toList) := hib
    have hlen := (Tryz.Builder_Len _ _ _ _ hB)
    rw [hll] at hlen
    have HL : Hid (Calls Tryz.prog 97 #[.pointer (some ⟨w.heap.size, 0, none⟩)] wr fun e w' => e = .returned (.int .i64 ((32 * k : Nat) : Int)) ∧ w' = wr) := hlen
    have HLL : Hid ((Lib.byteCells (expAll F K kb ib k)).length = 32 * k) := hll
    clear hBl hal hll hlen hkb hib
    by_cases hkn : 32 * k < n
    · have hconv := byte_string wr (((k : Int) + 1) % 256) (by omega) (by omega)
      obtain ⟨s2, hs2⟩ : ∃ s2 : ByteArray, s2 = ⟨#[(((k : Int) + 1) % 256).toNat.toUInt8]⟩ := ⟨_, rfl⟩
      rw [← hs2] at hconv
      have HS2 : Hid (s2 = ⟨#[(((k : Int) + 1) % 256).toNat.toUInt8]⟩) := hs2
      clear hs2
      go_wp2_with fail
      refine HL.out.mono ?_
      rintro e w' ⟨rfl, rfl⟩
      go_wp2_with fail
      obtain ⟨s1, hs1⟩ : ∃ s1 : ByteArray, s1 = ⟨(expT F K kb ib k).toArray⟩ := ⟨_, rfl⟩
      rw [← hs1]
      have hcat : catS [s1, info, s2] = expT F K kb ib k ++ ib ++ [((k + 1) % 256).toUInt8] := by
        have e2 : (((k : Int) + 1) % 256).toNat = (k + 1) % 256 := by omega
        rw [hs1, HS2.out, HIB.out, e2]; simp [catS]
      have hcl : (catS [s1, info, s2]).length ≤ 2000000 := by
        have := expT_le F K kb ib k
        have e3 : ib.length = info.size := by rw [HIB.out]; rfl
        rw [hcat]; simp; omega
      have hT1 : Tabs ((w'.alloc (.cells #[.int .u8 (((k : Int) + 1) % 256)] 5)).alloc (.cells #[.string s1, .string info, .string s2] 9)) F K := (hT.later hb).later (((Below.refl _ _).alloc (Nat.le_refl _) _).alloc (by simp) _)
      have hm := hmac_any _ key [s1, info, s2] (some ⟨(w'.alloc (.cells #[.int .u8 (((k : Int) + 1) % 256)] 5)).heap.size, 0, none⟩) 3 3 hk (reads_three (w'.alloc (.cells #[.int .u8 (((k : Int) + 1) % 256)] 5)) (.string s1) (.string info) (.string s2) 9) (by omega) (by omega) (by omega) F K hT1
      rw [hcat, ← HKB.out] at hm
      have HE : Hid (hmacF F K kb (expT F K kb ib k ++ ib ++ [((k + 1) % 256).toUInt8]) = expT F K kb ib (k + 1)) := rfl
      rw [HE.out] at hm
      simp only [World.size_alloc] at hm
      refine hm.mono ?_
      rintro e w1 ⟨rfl, hb1⟩
      have q1 : Below w'.heap.size w' w1 := (((Below.refl _ _).alloc (Nat.le_refl _) _).alloc (by simp) _).trans (hb1.mono (by first | omega | simp))
      have hB1 := builder_later hB q1
      have hbw1 := hb.trans (q1.mono hb.size)
      clear hm hT1 hcl hcat hs1 hconv HL hb1
      obtain ⟨s3, hs3⟩ : ∃ s3 : ByteArray, s3 = ⟨(expT F K kb ib (k + 1)).toArray⟩ := ⟨_, rfl⟩
      have hs3l : s3.size = 32 := by rw [hs3]; show (expT F K kb ib (k + 1)).toArray.size = 32; simp [expT_length]
      have hs3c : Lib.strCells s3 = Lib.byteCells (expT F K kb ib (k + 1)) := by rw [hs3]; rfl
      have hws := writeString_any w.heap.size w.heap.size _ s3 w1 hB1 (by rw [HLL.out]; omega) hbw1.size
      rw [hs3c, ← Lib.byteCells_append, show expAll F K kb ib k ++ expT F K kb ib (k + 1) = expAll F K kb ib (k + 1) from rfl] at hws
      have HWS : Hid (Calls Tryz.prog 98 #[.pointer (some ⟨w.heap.size, 0, none⟩), .string s3] w1 fun e w' => e = .returned (.tuple #[.int .i64 s3.size, .nilIface]) ∧ (Lib.BuilderAt 136 5 w.heap.size w.heap.size (.pointer (some ⟨w.heap.size, 0, none⟩)) (Lib.byteCells (expAll F K kb ib (k + 1))) w' ∧ Below w.heap.size w1 w')) := hws
      have HS3 : Hid (s3 = ⟨(expT F K kb ib (k + 1)).toArray⟩) := hs3
      rw [← hs3]
      clear hws hs3 hs3l hs3c hB1 hB
      go_wp2_with fail
      refine HWS.out.mono ?_
      rintro e w2 ⟨rfl, hB2, hb2⟩
      have hbw2 := hbw1.trans hb2
      clear HWS hb2 hbw1
      go_wp2
      go_roundw
      case rel => exact ⟨k + 1, by omega, by rw [HS3.out], congrArg (Value.int .u8) (by omega), Or.inr hB2, hbw2⟩
      case measure =>
        have := bufLen_of (.inr hB2)
        rw [Lib.byteCells_length, expAll_length] at this
        rw [this, HBL.out]
        omega
    · have hkk : k = (n + 31) / 32 := by omega
      have HST := Tryz.Builder_String_any _ _ _ wr hB hb.size
      have HST2 : Hid (Calls Tryz.prog 99 #[.pointer (some ⟨w.heap.size, 0, none⟩)] wr fun e w' => e = .returned (.string ⟨(expAll F K kb ib k).toArray⟩) ∧ Below w.heap.size wr w') := HST
      have hel := expAll_length F K kb ib k
      have HEL : Hid ((expAll F K kb ib k).length = 32 * k) := hel
      have hel1 : n ≤ (expAll F K kb ib k).length := by omega
      have HKK : Hid (k = (n + 31) / 32) := hkk
      clear HST hB hkk hel
      go_wp2_with fail
      refine HL.out.mono ?_
      rintro e w' ⟨rfl, rfl⟩
      go_wp2_with fail
      refine HST2.out.mono ?_
      rintro e w1 ⟨rfl, hb1⟩
      clear HST2 HL
      go_wp2
      go_ret2
      refine ⟨?_, hb.trans hb1⟩
      show Ending.returned (.tuple #[.string ((⟨(expAll F K kb ib k).toArray⟩ : ByteArray).extract 0 n), .int .i64 0]) = _
      rw [extract_take, expandF, ← HKB.out, ← HIB.out, ← HKK.out]
end Go.Proofs.YtipehnojibdfeaaGreat
