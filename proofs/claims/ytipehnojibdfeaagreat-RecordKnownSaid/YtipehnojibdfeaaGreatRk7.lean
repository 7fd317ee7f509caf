/- Parts of the proof, as they were built: Build, Mac2, Mac3, Aes1, Aes2, Aes3, Aes4. -/
import Derived.Test.YtipehnojibdfeaaGreatProg
import Derived.Test.YtipehnojibdfeaaGreatRk1
import Derived.Lib.Builder
import Derived.Lib.AppendStr
import Derived.Lib.UnsafeStr
import Derived.Laws.Externs
import Derived.Test.YtipehnojibdfeaaGreatRk6

/- Contracts of strings.Builder's copyCheck and WriteString, of a builder in a block of its own: after the kit's own walks of them. -/
namespace Go.Proofs.YtipehnojibdfeaaGreat
open Go Go.Proofs Go.RowKit

theorem Tryz.infoByteB : (Tryz.prog.info? 5).map (fun i => (i.zero, i.size, i.bytes)) = some (some (.int .u8 0), 1, 1) := by kernel_rfl
theorem Tryz.sizeBuilder : (Tryz.prog.info? 136).map (·.size) = some 2 := by kernel_rfl

set_option maxHeartbeats 1000000 in
set_option maxRecDepth 100000 in
theorem copyCheck_used (b : Nat) (w : World) (h0 : w.cell? ⟨b, 0, none⟩ = some (.pointer (some ⟨b, 0, none⟩))) :
    Calls Tryz.prog 108 #[.pointer (some ⟨b, 0, none⟩)] w fun e w' => e = .returned (.tuple #[]) ∧ w' = w := by
  obtain ⟨j, hj, _⟩ := Option.map_eq_some_iff.1 Tryz.sizeBuilder
  go_enter Tryz.func108, Tryz.ntmps108
  go_wp2
  rw [Lib.run_neq_ptr_same w _ Tryz.underlying134 hj]
  go_wp2
  go_end0
  exact ⟨rfl, rfl⟩

set_option maxHeartbeats 1000000 in
set_option maxRecDepth 100000 in
theorem copyCheck_fresh (b : Nat) (w : World) (h0 : w.cell? ⟨b, 0, none⟩ = some (.pointer none)) (hsh : w.shape? b = some (136, 2)) (hfz : w.frozen? ⟨b, 0, none⟩ = false) :
    Calls Tryz.prog 108 #[.pointer (some ⟨b, 0, none⟩)] w fun e w' => e = .returned (.tuple #[]) ∧ w' = w.setCell ⟨b, 0, none⟩ (.pointer (some ⟨b, 0, none⟩)) := by
  obtain ⟨j, hj, hjs⟩ := Option.map_eq_some_iff.1 Tryz.sizeBuilder
  go_enter Tryz.func108, Tryz.ntmps108
  go_wp2
  rw [Lib.run_to_unsafe w ⟨b, 0, none⟩ Tryz.underlying134 Tryz.underlying169 hj (by rw [hjs]; decide) hsh (Nat.zero_lt_succ 1)]
  simp only [Result.andThen]
  rw [Oper.upon_value]
  go_wp2
  rw [run_callFunc_extern Tryz.func116 (by kernel_rfl) (by kernel_rfl) (by kernel_rfl) (e := Extern.AbiNoEscape.same) (by kernel_rfl)]
  rw [Lib.run_noEscape]
  simp only [Result.andThen]
  rw [Oper.upon_value]
  go_wp2
  rw [Lib.run_from_unsafe w ⟨b, 0, none⟩ Tryz.underlying169 Tryz.underlying134 hj hsh (by kernel_rfl)]
  simp only [Result.andThen]
  rw [Oper.upon_value]
  go_wp2
  go_end0
  exact ⟨rfl, rfl⟩

theorem copyCheck_any (B b : Nat) (bs : List Value) (w : World) (h : Lib.IsBuilder 136 5 B b bs w) :
    Calls Tryz.prog 108 #[.pointer (some ⟨b, 0, none⟩)] w fun e w' => e = .returned (.tuple #[]) ∧ (Lib.BuilderAt 136 5 B b (.pointer (some ⟨b, 0, none⟩)) bs w' ∧ Below B w w') := by
  rcases h with h | h
  · refine (copyCheck_fresh b w h.cell0 h.shape h.frozen0).mono ?_
    rintro e w' ⟨rfl, rfl⟩
    exact ⟨rfl, h.used _, (Below.refl B w).setCell (p := ⟨b, 0, none⟩) h.1 _⟩
  · refine (copyCheck_used b w h.cell0).mono ?_
    rintro e w' ⟨rfl, rfl⟩
    exact ⟨rfl, h, Below.refl _ _⟩

set_option maxHeartbeats 1000000 in
set_option maxRecDepth 100000 in
theorem writeString_any (B b : Nat) (bs : List Value) (s : ByteArray) (w : World) (h : Lib.IsBuilder 136 5 B b bs w) (hlen : bs.length + s.size ≤ 140737488355328) (hBw : B ≤ w.heap.size) :
    Calls Tryz.prog 98 #[.pointer (some ⟨b, 0, none⟩), .string s] w fun e w' => e = .returned (.tuple #[.int .i64 s.size, .nilIface]) ∧ (Lib.BuilderAt 136 5 B b (.pointer (some ⟨b, 0, none⟩)) (bs ++ Lib.strCells s) w' ∧ Below B w w') := by
  obtain ⟨i0, hi, hz0, hz1, hz2⟩ := info_parts Tryz.infoByteB
  go_enter Tryz.func98, Tryz.ntmps98
  go_wp2_with (go_at_call 108; refine (copyCheck_any B b bs _ h).mono ?_)
  rintro e w1 ⟨rfl, h1, hb1⟩
  obtain ⟨hB, v, hbk, hown, hne⟩ := h1
  have c0 : w1.cell? ⟨b, 0, none⟩ = some (.pointer (some ⟨b, 0, none⟩)) := by rw [Lib.cell_of_heap hbk]; rfl
  have c1 : w1.cell? ⟨b, 1, none⟩ = some v := by rw [Lib.cell_of_heap hbk]; rfl
  go_wp2_with (at_builtin; refine Lib.wpList_append_own_string _ rfl _ _ 30 9 rfl B 5 i0 Tryz.underlying30 Tryz.underlying9 hi hz0 hz1 hz2 _ _ _ rfl hown s rfl ?c3 ?c4 ?c5 ?_)
  case c3 => unfold maxLen; omega
  case c4 => omega
  case c5 => have := hb1.size; omega
  intro v' w2 hown' hgrow _
  have hlt : b < w1.heap.size := by
    rcases Nat.lt_or_ge b w1.heap.size with h' | h'
    · exact h'
    · simp [Array.getElem?_eq_none h'] at hbk
  have hb2 : w2.heap[b]? = some (.cells #[.pointer (some ⟨b, 0, none⟩), v] 136 (0, 0)) := by
    rw [hgrow.block b hlt (fun e => hne e.symm)]
    exact hbk
  have d0 : w2.cell? ⟨b, 0, none⟩ = some (.pointer (some ⟨b, 0, none⟩)) := by rw [Lib.cell_of_heap hb2]; rfl
  have d1 : w2.cell? ⟨b, 1, none⟩ = some v := by rw [Lib.cell_of_heap hb2]; rfl
  have f1 : w2.frozen? ⟨b, 1, none⟩ = false := Lib.frozen_of_heap hb2 1
  obtain ⟨ao, n', cap, rfl⟩ : ∃ ao n' cap, v' = .slice ao n' cap := by
    rcases hown'.2 with ⟨hv, _⟩ | ⟨g, cap, cur, hv, _⟩
    · exact ⟨_, _, _, hv⟩
    · exact ⟨_, _, _, hv⟩
  go_wp2
  go_ret2
  refine ⟨rfl, ?_, ?_⟩
  · exact Lib.BuilderAt.put (T := 136) (e := 5) hB hb2 (bs' := bs ++ Lib.strCells s) (by simpa [Lib.strCells_length] using hown') (by decide)
  · exact (hb1.grown hgrow (by have := hb1.size; omega) (fun k hk => (hown.lt k hk).1)).setCell (p := ⟨b, 1, none⟩) hB _
end Go.Proofs.YtipehnojibdfeaaGreat

/- Contracts of mac's Extract, Expand, Equal: each computes its Lean twin. -/
namespace Go.Proofs.YtipehnojibdfeaaGreat
open Go Go.Proofs Go.RowKit

theorem bytes_eta (s : ByteArray) : (⟨s.data.toList.toArray⟩ : ByteArray) = s := by cases s; rfl

theorem extract_take (l : List UInt8) (n : Nat) : (⟨l.toArray⟩ : ByteArray).extract 0 n = ⟨(l.take n).toArray⟩ := by
  apply ByteArray.ext
  simp

set_option maxHeartbeats 1000000 in
theorem extract_any (w : World) (salt secret : ByteArray) (hs : salt.size ≤ 140737488351232) (hk : secret.size ≤ 100000000000000) (F K : Nat → Int) (hT : Tabs w F K) :
    Calls Tryz.prog 86 #[.string salt, .string secret] w fun e w' => e = .returned (.string ⟨(hmacF F K salt.data.toList secret.data.toList).toArray⟩) ∧ Below w.heap.size w w' := by
  have hcat : catS [secret] = secret.data.toList := by simp [catS]
  have hsl : secret.data.toList.length = secret.size := rfl
  have hc := hmac_any (w.alloc (.cells #[.string secret] 9)) salt [secret] (some ⟨w.heap.size, 0, none⟩) 1 1 hs (reads_one w (.string secret) 9) (by omega) (by rw [hcat]; omega) (by omega) F K (hT.later ((Below.refl _ _).alloc (Nat.le_refl _) _))
  rw [hcat] at hc
  have HC : Hid (Calls Tryz.prog 87 #[.string salt, .slice (some ⟨w.heap.size, 0, none⟩) 1 1] (w.alloc (.cells #[.string secret] 9)) fun e w' => e = .returned (.string ⟨(hmacF F K salt.data.toList secret.data.toList).toArray⟩) ∧ Below (w.alloc (.cells #[.string secret] 9)).heap.size (w.alloc (.cells #[.string secret] 9)) w') := hc
  clear hc hcat hsl hT
  go_enter Tryz.func86, Tryz.ntmps86
  go_wp2_with fail
  refine HC.out.mono ?_
  rintro e w1 ⟨rfl, hb1⟩
  clear HC
  go_wp2
  go_ret
  exact ⟨rfl, ((Below.refl _ _).alloc (Nat.le_refl _) _).trans (hb1.mono (by simp))⟩

theorem byte_string (w : World) (x : Int) (h0 : 0 ≤ x) (h1 : x < 256) :
    (convert 30 9 (.slice (some ⟨w.heap.size, 0, none⟩) 1 1)).run Tryz.prog (w.alloc (.cells #[.int .u8 x] 5)) = .ok (.string ⟨#[x.toNat.toUInt8]⟩) (w.alloc (.cells #[.int .u8 x] 5)) := by
  have h := run_convert_bytes_back (P := Tryz.prog) (w.alloc (.cells #[.int .u8 x] 5)) 30 9 5 ⟨w.heap.size, 0, none⟩ 1 [x.toNat.toUInt8] Tryz.underlying30 Tryz.underlying5 Tryz.underlying9 (by
    intro j hj
    have : j = 0 := by simp at hj; omega
    subst this
    rw [show (([x.toNat.toUInt8] : List UInt8)[0].toNat : Int) = x from toUInt8_int ⟨h0, h1⟩]
    simp [Addr.add])
  exact h

/-- the parts of what Expand makes -/
def expT (F K : Nat → Int) (key info : List UInt8) : Nat → List UInt8
  | 0 => []
  | i + 1 => hmacF F K key (expT F K key info i ++ info ++ [((i + 1) % 256).toUInt8])
def expAll (F K : Nat → Int) (key info : List UInt8) : Nat → List UInt8
  | 0 => []
  | i + 1 => expAll F K key info i ++ expT F K key info (i + 1)
def expandF (F K : Nat → Int) (key info : List UInt8) (n : Nat) : List UInt8 := (expAll F K key info ((n + 31) / 32)).take n
theorem expT_length (F K : Nat → Int) (key info : List UInt8) (i : Nat) : (expT F K key info (i + 1)).length = 32 := hmacF_length _ _ _ _
theorem expT_le (F K : Nat → Int) (key info : List UInt8) (i : Nat) : (expT F K key info i).length ≤ 32 := by
  cases i with
  | zero => simp [expT]
  | succ i => rw [expT_length]; omega
theorem expAll_length (F K : Nat → Int) (key info : List UInt8) (i : Nat) : (expAll F K key info i).length = 32 * i := by
  induction i with
  | zero => rfl
  | succ i ih => rw [expAll, List.length_append, ih, expT_length]; omega
theorem expandF_length (F K : Nat → Int) (key info : List UInt8) (n : Nat) : (expandF F K key info n).length = n := by
  rw [expandF, List.length_take, expAll_length]; omega

theorem builder_later {T e : TypeId} {B b : Nat} {bs : List Value} {w w' : World} (h : Lib.IsBuilder T e B b bs w) (hb : Below w.heap.size w w') : Lib.IsBuilder T e B b bs w' := by
  rcases h with ⟨h1, v, h2, h3, h4⟩ | ⟨h1, v, h2, h3, h4⟩
  · exact .inl ⟨h1, v, Blk.later h2 hb, ownsRow_later h3 hb, h4⟩
  · exact .inr ⟨h1, v, Blk.later h2 hb, ownsRow_later h3 hb, h4⟩

def bufLen (b : Nat) (w : World) : Nat := match w.cell? ⟨b, 1, none⟩ with
  | some (.slice _ l _) => l
  | _ => 0
theorem bufLen_of {T e : TypeId} {B b : Nat} {bs : List Value} {w : World} (h : Lib.IsBuilder T e B b bs w) : bufLen b w = bs.length := by
  have key : ∀ p, Lib.BuilderAt T e B b p bs w → bufLen b w = bs.length := by
    rintro p ⟨_, v, hb, hown, _⟩
    have hc : w.cell? ⟨b, 1, none⟩ = some v := by rw [Lib.cell_of_heap hb]; rfl
    rcases hown.2 with ⟨rfl, h0⟩ | ⟨g, cap, cur, rfl, _⟩
    · simp [bufLen, hc, h0]
    · simp [bufLen, hc]
  rcases h with h | h <;> exact key _ h

set_option maxRecDepth 100000 in
set_option maxHeartbeats 4000000 in
theorem expand_any (w : World) (key info : ByteArray) (n : Nat) (hk : key.size ≤ 140737488351232) (hi : info.size ≤ 1000000) (hn : n ≤ 8160) (F K : Nat → Int) (hT : Tabs w F K) :
    Calls Tryz.prog 85 #[.string key, .string info, .int .i64 n] w fun e w' => e = .returned (.tuple #[.string ⟨(expandF F K key.data.toList info.data.toList n).toArray⟩, .int .i64 0]) ∧ Below w.heap.size w w' := by
  have hd0 : decide ((n : Int) < 0) = false := by simp
  have hd1 : decide (8160 < (n : Int)) = false := by simp; omega
  go_enter Tryz.func85, Tryz.ntmps85
  go_wp2_with fail
  go_loopw [9, 10] (fun s i wr => ∃ k : Nat, k ≤ (n + 31) / 32 ∧ s = .string ⟨(expT F K key.data.toList info.data.toList k).toArray⟩ ∧ i = .int .u8 (((k + 1) % 256 : Nat) : Int) ∧ Lib.IsBuilder 136 5 w.heap.size w.heap.size (Lib.byteCells (expAll F K key.data.toList info.data.toList k)) wr ∧ Below w.heap.size w wr)
    (fun _ _ wr => n + 32 - bufLen w.heap.size wr)
  case atStart => exact ⟨0, by omega, rfl, rfl, .inl ⟨Nat.le_refl _, .slice none 0 0, heap_alloc_new w _, World.ownsRow_nil _ _ _ _, by simp [Value.ownBlock]⟩, (Below.refl _ _).alloc (Nat.le_refl _) _⟩
  case round =>
    obtain ⟨k, hk', rfl, rfl, hB, hb⟩ := hrel
    have hBl := bufLen_of hB
    rw [Lib.byteCells_length, expAll_length] at hBl
    obtain ⟨kb, hkb⟩ : ∃ kb, kb = key.data.toList := ⟨_, rfl⟩
    obtain ⟨ib, hib⟩ : ∃ ib, ib = info.data.toList := ⟨_, rfl⟩
    rw [← hkb, ← hib] at hB
    simp only [← hkb, ← hib]
    have hal := expAll_length F K kb ib k
    have hll : (Lib.byteCells (expAll F K kb ib k)).length = 32 * k := by rw [Lib.byteCells_length, hal]
    have HBL : Hid (bufLen w.heap.size wr = 32 * k) := hBl
    have HKB : Hid (kb = key.data.toList) := hkb
    have HIB : Hid (ib = info.data.toList) := hib
    have hlen := (Tryz.Builder_Len _ _ _ _ hB)
    rw [hll] at hlen
    have HL : Hid (Calls Tryz.prog 97 #[.pointer (some ⟨w.heap.size, 0, none⟩)] wr fun e w' => e = .returned (.int .i64 ((32 * k : Nat) : Int)) ∧ w' = wr) := hlen
    have HLL : Hid ((Lib.byteCells (expAll F K kb ib k)).length = 32 * k) := hll
    clear hBl hal hll hlen hkb hib
    by_cases hkn : 32 * k < n
    · have hconv := byte_string wr (((k : Int) + 1) % 256) (by omega) (by omega)
      obtain ⟨s2, hs2⟩ : ∃ s2 : ByteArray, s2 = ⟨#[(((k : Int) + 1) % 256).toNat.toUInt8]⟩ := ⟨_, rfl⟩
      rw [← hs2] at hconv
      have HS2 : Hid (s2 = ⟨#[(((k : Int) + 1) % 256).toNat.toUInt8]⟩) := hs2
      clear hs2
      go_wp2_with fail
      refine HL.out.mono ?_
      rintro e w' ⟨rfl, rfl⟩
      go_wp2_with fail
      obtain ⟨s1, hs1⟩ : ∃ s1 : ByteArray, s1 = ⟨(expT F K kb ib k).toArray⟩ := ⟨_, rfl⟩
      rw [← hs1]
      have hcat : catS [s1, info, s2] = expT F K kb ib k ++ ib ++ [((k + 1) % 256).toUInt8] := by
        have e2 : (((k : Int) + 1) % 256).toNat = (k + 1) % 256 := by omega
        rw [hs1, HS2.out, HIB.out, e2]; simp [catS]
      have hcl : (catS [s1, info, s2]).length ≤ 2000000 := by
        have := expT_le F K kb ib k
        have e3 : ib.length = info.size := by rw [HIB.out]; rfl
        rw [hcat]; simp; omega
      have hT1 : Tabs ((w'.alloc (.cells #[.int .u8 (((k : Int) + 1) % 256)] 5)).alloc (.cells #[.string s1, .string info, .string s2] 9)) F K := (hT.later hb).later (((Below.refl _ _).alloc (Nat.le_refl _) _).alloc (by simp) _)
      have hm := hmac_any _ key [s1, info, s2] (some ⟨(w'.alloc (.cells #[.int .u8 (((k : Int) + 1) % 256)] 5)).heap.size, 0, none⟩) 3 3 hk (reads_three (w'.alloc (.cells #[.int .u8 (((k : Int) + 1) % 256)] 5)) (.string s1) (.string info) (.string s2) 9) (by omega) (by omega) (by omega) F K hT1
      rw [hcat, ← HKB.out] at hm
      have HE : Hid (hmacF F K kb (expT F K kb ib k ++ ib ++ [((k + 1) % 256).toUInt8]) = expT F K kb ib (k + 1)) := rfl
      rw [HE.out] at hm
      simp only [World.size_alloc] at hm
      refine hm.mono ?_
      rintro e w1 ⟨rfl, hb1⟩
      have q1 : Below w'.heap.size w' w1 := (((Below.refl _ _).alloc (Nat.le_refl _) _).alloc (by simp) _).trans (hb1.mono (by first | omega | simp))
      have hB1 := builder_later hB q1
      have hbw1 := hb.trans (q1.mono hb.size)
      clear hm hT1 hcl hcat hs1 hconv HL hb1
      obtain ⟨s3, hs3⟩ : ∃ s3 : ByteArray, s3 = ⟨(expT F K kb ib (k + 1)).toArray⟩ := ⟨_, rfl⟩
      have hs3l : s3.size = 32 := by rw [hs3]; show (expT F K kb ib (k + 1)).toArray.size = 32; simp [expT_length]
      have hs3c : Lib.strCells s3 = Lib.byteCells (expT F K kb ib (k + 1)) := by rw [hs3]; rfl
      have hws := writeString_any w.heap.size w.heap.size _ s3 w1 hB1 (by rw [HLL.out]; omega) hbw1.size
      rw [hs3c, ← Lib.byteCells_append, show expAll F K kb ib k ++ expT F K kb ib (k + 1) = expAll F K kb ib (k + 1) from rfl] at hws
      have HWS : Hid (Calls Tryz.prog 98 #[.pointer (some ⟨w.heap.size, 0, none⟩), .string s3] w1 fun e w' => e = .returned (.tuple #[.int .i64 s3.size, .nilIface]) ∧ (Lib.BuilderAt 136 5 w.heap.size w.heap.size (.pointer (some ⟨w.heap.size, 0, none⟩)) (Lib.byteCells (expAll F K kb ib (k + 1))) w' ∧ Below w.heap.size w1 w')) := hws
      have HS3 : Hid (s3 = ⟨(expT F K kb ib (k + 1)).toArray⟩) := hs3
      rw [← hs3]
      clear hws hs3 hs3l hs3c hB1 hB
      go_wp2_with fail
      refine HWS.out.mono ?_
      rintro e w2 ⟨rfl, hB2, hb2⟩
      have hbw2 := hbw1.trans hb2
      clear HWS hb2 hbw1
      go_wp2
      go_roundw
      case rel => exact ⟨k + 1, by omega, by rw [HS3.out], congrArg (Value.int .u8) (by omega), Or.inr hB2, hbw2⟩
      case measure =>
        have := bufLen_of (.inr hB2)
        rw [Lib.byteCells_length, expAll_length] at this
        rw [this, HBL.out]
        omega
    · have hkk : k = (n + 31) / 32 := by omega
      have HST := Tryz.Builder_String_any _ _ _ wr hB hb.size
      have HST2 : Hid (Calls Tryz.prog 99 #[.pointer (some ⟨w.heap.size, 0, none⟩)] wr fun e w' => e = .returned (.string ⟨(expAll F K kb ib k).toArray⟩) ∧ Below w.heap.size wr w') := HST
      have hel := expAll_length F K kb ib k
      have HEL : Hid ((expAll F K kb ib k).length = 32 * k) := hel
      have hel1 : n ≤ (expAll F K kb ib k).length := by omega
      have HKK : Hid (k = (n + 31) / 32) := hkk
      clear HST hB hkk hel
      go_wp2_with fail
      refine HL.out.mono ?_
      rintro e w' ⟨rfl, rfl⟩
      go_wp2_with fail
      refine HST2.out.mono ?_
      rintro e w1 ⟨rfl, hb1⟩
      clear HST2 HL
      go_wp2
      go_ret2
      refine ⟨?_, hb.trans hb1⟩
      show Ending.returned (.tuple #[.string ((⟨(expAll F K kb ib k).toArray⟩ : ByteArray).extract 0 n), .int .i64 0]) = _
      rw [extract_take, expandF, ← HKB.out, ← HIB.out, ← HKK.out]
end Go.Proofs.YtipehnojibdfeaaGreat

/- The contract of mac's Equal: are both one text? -/
namespace Go.Proofs.YtipehnojibdfeaaGreat
open Go Go.Proofs Go.RowKit

theorem nat_or_zero (x y : Nat) : x ||| y = 0 ↔ x = 0 ∧ y = 0 := by
  constructor
  · intro h
    have h1 : x ≤ x ||| y := Nat.left_le_or
    have h2 : y ≤ x ||| y := Nat.right_le_or
    omega
  · rintro ⟨rfl, rfl⟩; rfl
theorem nat_xor_zero (x y : Nat) : x ^^^ y = 0 ↔ x = y := by
  constructor
  · intro h
    have : (x ^^^ y) ^^^ y = 0 ^^^ y := by rw [h]
    rwa [Nat.xor_assoc, Nat.xor_self, Nat.xor_zero, Nat.zero_xor] at this
  · rintro rfl; exact Nat.xor_self _
theorem u8_or (x y : Nat) (hx : x < 256) (hy : y < 256) : bits .or .u8 (x : Int) (y : Int) = ((x ||| y : Nat) : Int) := by
  have h := bits_nat .u8 8 (by decide) wraps_u8 x y hx hy
  exact h.2
theorem u8_xor (x y : Nat) (hx : x < 256) (hy : y < 256) : bits .xor .u8 (x : Int) (y : Int) = ((x ^^^ y : Nat) : Int) := by
  have hx' : x % 2 ^ 8 = x := Nat.mod_eq_of_lt hx
  have hy' : y % 2 ^ 8 = y := Nat.mod_eq_of_lt hy
  have hlt : x ^^^ y < 2 ^ 8 := Nat.xor_lt_two_pow hx hy
  simp only [bits, BitVec.ofInt_natCast, BitVec.toNat_xor, BitVec.toNat_ofNat, show IntKind.u8.bits = 8 from rfl, hx', hy']
  exact wraps_u8 _ (Int.natCast_nonneg _) (by exact_mod_cast hlt)
theorem u8_unlike (x p q : Nat) (hx : x < 256) (hp : p < 256) (hq : q < 256) : ∃ y : Nat, y < 256 ∧ bits .or .u8 (x : Int) (bits .xor .u8 (p : Int) (q : Int)) = (y : Int) ∧ (y = 0 ↔ x = 0 ∧ p = q) := by
  have hlt : p ^^^ q < 2 ^ 8 := Nat.xor_lt_two_pow hp hq
  refine ⟨x ||| (p ^^^ q), Nat.or_lt_two_pow (n := 8) hx hlt, ?_, ?_⟩
  · rw [u8_xor p q hp hq, u8_or x (p ^^^ q) hx hlt]
  · rw [nat_or_zero, nat_xor_zero]

set_option maxHeartbeats 2000000 in
theorem equal_any (w : World) (a b : ByteArray) (ha : a.size ≤ 9223372036854775807) (hb : b.size ≤ 9223372036854775807) :
    Calls Tryz.prog 70 #[.string a, .string b] w fun e w' => e = .returned (.bool (decide (a = b))) ∧ Below w.heap.size w w' := by
  by_cases hl : a.size = b.size
  · have hn : ((a.size : Int) != (b.size : Int)) = false := by rw [bne_eq_false_iff_eq]; omega
    have hle : b.size ≤ a.size := by omega
    have hle' : a.size ≤ b.size := by omega
    have HL : Hid (a.size = b.size) := hl
    clear hl
    go_enter Tryz.func70, Tryz.ntmps70
    go_wp2_with fail
    go_loopw [5, 14] (fun x i wr => ∃ (k y : Nat), k ≤ a.size ∧ i = .int .i64 k ∧ x = .int .u8 y ∧ y < 256 ∧ (y = 0 ↔ a.data.toList.take k = b.data.toList.take k) ∧ Below w.heap.size w wr) (fun _ i _ => a.size - (intOf i).toNat)
    case atStart => exact ⟨0, 0, by omega, rfl, rfl, by omega, by simp, Below.refl _ _⟩
    case round =>
      obtain ⟨k, y, hk, rfl, rfl, hy, hyk, hbw⟩ := hrel
      have HYK : Hid (y = 0 ↔ a.data.toList.take k = b.data.toList.take k) := hyk
      clear hyk
      by_cases hkn : k < a.size
      · have hkb : k < b.size := by omega
        obtain ⟨z, hz, hz2, hz3⟩ := u8_unlike y (a[k]).toNat (b[k]).toNat hy (a[k]).toNat_lt (b[k]).toNat_lt
        have HZ3 : Hid (z = 0 ↔ y = 0 ∧ (a[k]).toNat = (b[k]).toNat) := hz3
        clear hz3
        go_wp2_with fail
        go_quiet (fail)
        go_wp2
        go_roundw
        case rel =>
          refine ⟨k + 1, z, by omega, by go_num, by rw [← hz2], hz, ?_, below_drewN' hbw _⟩
          have e1 : a.data.toList.take (k + 1) = a.data.toList.take k ++ [a[k]] := by rw [List.take_succ_eq_append_getElem (by simpa using hkn)]; rfl
          have e2 : b.data.toList.take (k + 1) = b.data.toList.take k ++ [b[k]] := by rw [List.take_succ_eq_append_getElem (by simpa using hkb)]; rfl
          rw [HZ3.out, HYK.out, e1, e2]
          constructor
          · rintro ⟨h1, h2⟩; rw [h1, UInt8.toNat_inj.1 h2]
          · intro h
            have := List.append_inj' h rfl
            exact ⟨this.1, by have := this.2; simp at this; simp [this]⟩
        case measure => simp [intOf]; omega
      · obtain rfl : k = a.size := by omega
        go_wp2
        go_ret
        refine ⟨?_, hbw⟩
        show Ending.returned (.bool ((y : Int) == 0)) = _
        have e1 : a.data.toList.take a.size = a.data.toList := List.take_of_length_le (Nat.le_refl _)
        have e2 : b.data.toList.take a.size = b.data.toList := List.take_of_length_le (by rw [HL.out]; exact Nat.le_refl _)
        have h := HYK.out
        rw [e1, e2] at h
        have hi : ((y : Int) == 0) = decide (a = b) := by
          rw [Bool.eq_iff_iff, beq_iff_eq, decide_eq_true_eq]
          constructor
          · intro h0
            have h1 := h.1 (by omega)
            exact ByteArray.ext (Array.toList_inj.1 h1)
          · intro h0
            have := h.2 (by rw [h0])
            omega
        rw [hi]
  · have hn : ((a.size : Int) != (b.size : Int)) = true := by rw [bne_iff_ne]; omega
    have hne : decide (a = b) = false := by simp; rintro rfl; exact hl rfl
    rw [hne]
    go_enter Tryz.func70, Tryz.ntmps70
    go_wp2_with fail
    go_ret
    exact ⟨rfl, Below.refl _ _⟩
end Go.Proofs.YtipehnojibdfeaaGreat

/- Contracts of aes's box, twice, the cipher's add, the mixing of a column: each computes its Lean twin. -/
namespace Go.Proofs.YtipehnojibdfeaaGreat
open Go Go.Proofs Go.RowKit

theorem run_index_agg {P : Program} (T e : TypeId) (n : Nat) (cs : Array Value) (k : IntKind) (i : Nat) (hu : P.underlying T = some (.array n e)) (hs : ∀ w, (sizeOf e).run P w = .ok 1 w) (hg : ∀ w, (isAgg e).run P w = .ok false w) (hi : i < n) (v : Value) (hv : cs[i]? = some v) (w : World) :
    (Instr.index T (.agg cs) (.int k (i : Int))).run P w = .ok v w := by
  have h1 : (i : Int) < (n : Int) := by omega
  simp [Instr.index, asIntOf, run_underlying hu, hs, part, hg, hv]
  intro h
  omega

/-- the box of each byte -/
def sboxL : List Nat := [99, 124, 119, 123, 242, 107, 111, 197, 48, 1, 103, 43, 254, 215, 171, 118, 202, 130, 201, 125, 250, 89, 71, 240, 173, 212, 162, 175, 156, 164, 114, 192, 183, 253, 147, 38, 54, 63, 247, 204, 52, 165, 229, 241, 113, 216, 49, 21, 4, 199, 35, 195, 24, 150, 5, 154, 7, 18, 128, 226, 235, 39, 178, 117, 9, 131, 44, 26, 27, 110, 90, 160, 82, 59, 214, 179, 41, 227, 47, 132, 83, 209, 0, 237, 32, 252, 177, 91, 106, 203, 190, 57, 74, 76, 88, 207, 208, 239, 170, 251, 67, 77, 51, 133, 69, 249, 2, 127, 80, 60, 159, 168, 81, 163, 64, 143, 146, 157, 56, 245, 188, 182, 218, 33, 16, 255, 243, 210, 205, 12, 19, 236, 95, 151, 68, 23, 196, 167, 126, 61, 100, 93, 25, 115, 96, 129, 79, 220, 34, 42, 144, 136, 70, 238, 184, 20, 222, 94, 11, 219, 224, 50, 58, 10, 73, 6, 36, 92, 194, 211, 172, 98, 145, 149, 228, 121, 231, 200, 55, 109, 141, 213, 78, 169, 108, 86, 244, 234, 101, 122, 174, 8, 186, 120, 37, 46, 28, 166, 180, 198, 232, 221, 116, 31, 75, 189, 139, 138, 112, 62, 181, 102, 72, 3, 246, 14, 97, 53, 87, 185, 134, 193, 29, 158, 225, 248, 152, 17, 105, 217, 142, 148, 155, 30, 135, 233, 206, 85, 40, 223, 140, 161, 137, 13, 191, 230, 66, 104, 65, 153, 45, 15, 176, 84, 187, 22]
def sbox (x : Int) : Int := (sboxL.getD x.toNat 0 : Nat)
theorem sbox_in (x : Int) : 0 ≤ sbox x ∧ sbox x < 256 := by
  have h : ∀ n, sboxL.getD n 0 < 256 := by
    intro n
    by_cases hn : n < 256
    · have : ∀ m : Fin 256, sboxL.getD m.1 0 < 256 := by decide +kernel
      exact this ⟨n, hn⟩
    · have : sboxL.length = 256 := by decide +kernel
      rw [List.getD_eq_getElem?_getD, List.getElem?_eq_none (by omega)]
      decide
  unfold sbox
  have := h x.toNat
  omega
def boxAgg : Array Value := (sboxL.map fun (n : Nat) => Value.int .u8 (n : Int)).toArray
theorem boxAgg_get (i : Nat) (hi : i < 256) : boxAgg[i]? = some (.int .u8 (sbox i)) := by
  have : sboxL.length = 256 := by decide +kernel
  simp [boxAgg, sbox, List.getElem?_eq_getElem (show i < sboxL.length by omega)]

theorem wpList_run {P : Program} {ops : Array Oper} {rest : List Oper} {o : Oper} {a : Act} {w : World} {Q : Exit → Act → World → Prop} (hgd : o.guard = none) (v : Value) (hr : (execOp a.eval o).run P w = .ok (.value v) w)
    (h : wpList P ops Q rest (a.put o.dst v) w) : wpList P ops Q (o :: rest) a w :=
  wpList_plain hgd fun _ hK => by
    unfold Oper.wp
    rw [hr, Oper.upon_value]
    exact hK _ _ h
theorem wpList_new {P : Program} {ops : Array Oper} {rest : List Oper} {o : Oper} {a : Act} {w w' : World} {Q : Exit → Act → World → Prop} (hgd : o.guard = none) (v : Value) (hr : (execOp a.eval o).run P w = .ok (.value v) w')
    (h : wpList P ops Q rest (a.put o.dst v) w') : wpList P ops Q (o :: rest) a w :=
  wpList_plain hgd fun _ hK => by
    unfold Oper.wp
    rw [hr, Oper.upon_value]
    exact hK _ _ h
def zero256 : Array Value := (List.replicate 256 (Value.int .u8 0)).toArray

set_option maxRecDepth 100000 in
set_option maxHeartbeats 4000000 in
theorem box_any (w : World) : Calls Tryz.prog 112 #[] w fun e w' => e = .returned (.agg boxAgg) ∧ Below w.heap.size w w' := by
  have hz : Blk (w.alloc (.cells zero256 163)) w.heap.size 163 zero256 := Blk.new _ _ _
  have hi : (Tryz.prog.info? 163).map (·.size) = some boxAgg.size := by kernel_rfl
  have hs : zero256.size = boxAgg.size := by decide +kernel
  have h1 : boxAgg.all (·.oneCell') = true := by kernel_rfl
  go_enter Tryz.func112, Tryz.ntmps112
  go_wp2_with (first
    | ((with_reducible refine wpList_new (o := ⟨some 0, .alloc 163, _, _, _, _⟩) (w' := w.alloc (.cells zero256 163)) rfl (.pointer (some ⟨w.heap.size, 0, none⟩)) ?hnew ?_))
    | ((with_reducible refine wpList_run (o := ⟨some 1, .build _ _, _, _, _, _⟩) rfl (.agg boxAgg) ?hbuild ?_))
    | ((with_reducible refine wpList_store_row (op := ⟨none, .store _ _ _, _, _, _, _⟩) rfl 163 (.tmp 0) (.tmp 1) rfl w.heap.size 163 _ _ rfl rfl hz hi hs h1 ?_)))
  case hnew => kernel_rfl
  case hbuild => kernel_rfl
  refine bodyPost_ret (results_cell_row rfl _ _ w.heap.size 163 boxAgg (0, 0) _ rfl (hz.setRow boxAgg) Tryz.underlying163 rfl hi) rfl ?_
  exact ⟨rfl, below_setRow' ((Below.refl _ _).alloc (Nat.le_refl _) _) (Nat.le_refl _) _⟩

/-- twice a byte -/
def twice8 (x : Int) : Int := if x / 128 = 1 then xor8 (x * 2 % 256) 27 else x * 2 % 256
theorem twice8_in (x : Int) : 0 ≤ twice8 x ∧ twice8 x < 256 := by
  unfold twice8; split
  · exact xor8_in _ _
  · omega
theorem twice_any (w : World) (x : Int) (h0 : 0 ≤ x) (h1 : x < 256) : Calls Tryz.prog 113 #[.int .u8 x] w fun e w' => e = .returned (.int .u8 (twice8 x)) ∧ ∃ n, w' = w.drewN n := by
  by_cases h : x / 128 = 1
  · have ht : (x / 128 == 1) = true := by rw [beq_iff_eq]; exact h
    rw [twice8, if_pos h]
    clear h
    go_enter Tryz.func113, Tryz.ntmps113
    go_wp2
    go_ret
    exact ⟨rfl, 0, rfl⟩
  · have ht : (x / 128 == 1) = false := by rw [beq_eq_false_iff_ne]; exact h
    rw [twice8, if_neg h]
    clear h
    go_enter Tryz.func113, Tryz.ntmps113
    go_wp2
    go_ret
    exact ⟨rfl, 0, rfl⟩
end Go.Proofs.YtipehnojibdfeaaGreat

/- Contracts of the cipher's add and of the mixing of a column. -/
namespace Go.Proofs.YtipehnojibdfeaaGreat
open Go Go.Proofs Go.RowKit

/-- a block with a round's key laid under it -/
def addK (c : Nat → Int) (r : Nat) (s : Nat → Int) (k : Nat) : Nat → Int := fun i => if i < k then xor8 (s i) (c (16 * r + i)) else s i

set_option maxHeartbeats 2000000 in
theorem add_any (w : World) (cB sB r : Nat) (hr : r ≤ 14) (c s : Nat → Int) (hne : cB ≠ sB) (hC : w.rowIs cB 162 240 (fun j => .int .u8 (c j))) (hS : w.rowIs sB 146 16 (fun j => .int .u8 (s j))) :
    Calls Tryz.prog 114 #[.pointer (some ⟨cB, 0, none⟩), .pointer (some ⟨sB, 0, none⟩), .int .i64 r] w fun e w' => e = .returned (.tuple #[]) ∧ w'.rowIs sB 146 16 (fun j => .int .u8 (addK c r s 16 j)) ∧ w.grownBy w' (some sB) := by
  go_enter Tryz.func114, Tryz.ntmps114
  go_wp2_with fail
  go_loopw [7] (fun i wr => ∃ k : Nat, k ≤ 16 ∧ i = .int .i64 k ∧ wr.rowIs sB 146 16 (fun j => .int .u8 (addK c r s k j)) ∧ w.grownBy wr (some sB)) (fun i _ => 16 - (intOf i).toNat)
  case atStart => exact ⟨0, by omega, rfl, hS.congr (fun i _ => by simp [addK]), grownBy_refl _ _⟩
  case round =>
    clear hS
    obtain ⟨k, hk, rfl, hS, hb⟩ := hrel
    by_cases hk16 : k < 16
    · have hCr := rowIs_grown hC hb (by simp; omega)
      obtain ⟨we, hwe⟩ : ∃ we, we = wr := ⟨_, rfl⟩
      rw [← hwe]
      rw [← hwe] at hS hCr hb
      clear hwe
      have C1 := later_cell (hS.cell (i := k) hk16)
      have C2 := later_cell (hCr.cell (i := (4 * r + k / 4) * 4 + k % 4) (by omega))
      clear hC hCr
      go_wp2_with fail
      refine wp_region_later_tail 20 (by kernel_rfl) (by kernel_rfl) ?_
      simp only [List.take_succ_cons, List.take_zero, List.drop_succ_cons, List.drop_zero]
      repeat (go_big_quiet_step (fail))
      refine wpQuiet_nil ?_
      intro _ hw'
      obtain ⟨x, hw''⟩ := hw'
      subst hw''
      have hfz := (rowIs_later hS x.h).frozen k
      have hmc := (rowIs_later hS x.h).cell (i := k) hk16
      go_wp2
      go_roundw
      case rel =>
        refine ⟨k + 1, by omega, by go_num, ((rowIs_later hS x.h).set k _).congr (fun j _ => ?_), grownBy_set (grownBy_later hb x.h) _⟩
        by_cases hj : j = k
        · subst hj; simp [addK, xor8, show (4 * r + j / 4) * 4 + j % 4 = 16 * r + j by omega]
        · simp [addK, hj, show (j < k + 1) = (j < k) from propext (by omega)]
      case measure => simp [intOf]; omega
    · obtain rfl : k = 16 := by omega
      go_wp2
      go_end0
      exact ⟨rfl, hS, hb⟩
/-- a column, mixed -/
def mixAll (x : Nat → Int) : Int := xor8 (xor8 (xor8 (x 0) (x 1)) (x 2)) (x 3)
def mixC (x : Nat → Int) (j : Nat) : Int := xor8 (x j) (xor8 (mixAll x) (twice8 (xor8 (x j) (x ((j + 1) % 4)))))
def mixTo (x : Nat → Int) (k : Nat) : Nat → Int := fun j => if j < k then mixC x j else x j

set_option maxHeartbeats 2000000 in
theorem mix_any (w : World) (tB o n cap : Nat) (hn : 4 ≤ n) (t : Nat → Int) (ho : o + 4 ≤ 16) (hS : w.rowIs tB 146 16 (fun j => .int .u8 (t j))) :
    Calls Tryz.prog 115 #[.slice (some ⟨tB, o, none⟩) n cap] w fun e w' => e = .returned (.tuple #[]) ∧ w'.rowIs tB 146 16 (fun j => .int .u8 (if o ≤ j ∧ j < o + 4 then mixC (fun i => t (o + i)) (j - o) else t j)) ∧ w.grownBy w' (some tB) := by
  go_enter Tryz.func115, Tryz.ntmps115
  have C0 := hS.cell (i := o) (by omega)
  have C1 := hS.cell (i := o + 1) (by omega)
  have C2 := hS.cell (i := o + 2) (by omega)
  have C3 := hS.cell (i := o + 3) (by omega)
  go_wp2_with fail
  go_quiet (fail)
  go_wp2_with fail
  go_loopw [23] (fun i wr => ∃ k : Nat, k ≤ 3 ∧ i = .int .i64 k ∧ wr.rowIs tB 146 16 (fun j => .int .u8 (if o ≤ j ∧ j < o + k then mixC (fun i => t (o + i)) (j - o) else t j)) ∧ w.grownBy wr (some tB)) (fun i _ => 3 - (intOf i).toNat)
  case atStart => exact ⟨0, by omega, rfl, (World.rowIs.of_block hS rfl).congr (fun j _ => by simp; omega), grownBy_of_below (below_drewN' (Below.refl _ _) _) _⟩
  case round =>
    obtain ⟨k, hk, rfl, hM, hb⟩ := hrel
    by_cases hk3 : k < 3
    · obtain ⟨we, hwe⟩ : ∃ we, we = wr := ⟨_, rfl⟩
      rw [← hwe]
      rw [← hwe] at hM hb
      clear hwe C0 C1 C2 C3
      have D0 : we.cell? ⟨tB, o + k, none⟩ = some (.int .u8 (t (o + k))) := by have := hM.cell (i := o + k) (by omega); simpa using this
      have D1 : we.cell? ⟨tB, o + (k + 1), none⟩ = some (.int .u8 (t (o + (k + 1)))) := by have := hM.cell (i := o + (k + 1)) (by omega); rw [if_neg (by omega)] at this; exact this
      have E0 := later_cell D0
      have E1 := later_cell D1
      go_wp2_with fail
      refine wp_region_later_tail 19 (by kernel_rfl) (by kernel_rfl) ?_
      simp only [List.take_succ_cons, List.take_zero, List.drop_succ_cons, List.drop_zero]
      repeat (go_big_quiet_step (((go_at_call 113; exact later_of_drawn (twice_any _ _ (xor8_in _ _).1 (xor8_in _ _).2)))))
      refine wpQuiet_nil ?_
      intro _ hw'
      obtain ⟨x, hw''⟩ := hw'
      subst hw''
      have hfz := (rowIs_later hM x.h).frozen (o + k)
      have hmc := (rowIs_later hM x.h).cell (i := o + k) (by omega)
      clear D0 D1 E0 E1
      go_wp2
      go_roundw
      case rel =>
        refine ⟨k + 1, by omega, by go_num, ((rowIs_later hM x.h).set (o + k) _).congr (fun j _ => ?_), grownBy_set (grownBy_later hb x.h) _⟩
        by_cases hj : j = o + k
        · subst hj
          have hm : (k + 1) % 4 = k + 1 := by omega
          simp [mixC, mixAll, xor8, hm]
        · have e : (o ≤ j ∧ j < o + (k + 1)) = (o ≤ j ∧ j < o + k) := propext (by omega)
          simp only [if_neg hj, e]
      case measure => simp [intOf]; omega
    · obtain rfl : k = 3 := by omega
      obtain ⟨we, hwe⟩ : ∃ we, we = wr := ⟨_, rfl⟩
      rw [← hwe]
      rw [← hwe] at hM hb
      clear hwe C0 C1 C2 C3
      have D3 : we.cell? ⟨tB, o + 3, none⟩ = some (.int .u8 (t (o + 3))) := by have := hM.cell (i := o + 3) (by omega); rw [if_neg (by omega)] at this; exact this
      have E3 := later_cell D3
      go_wp2_with fail
      refine wp_region_later_tail 13 (by kernel_rfl) (by kernel_rfl) ?_
      simp only [List.take_succ_cons, List.take_zero, List.drop_succ_cons, List.drop_zero]
      repeat (go_big_quiet_step (((go_at_call 113; exact later_of_drawn (twice_any _ _ (xor8_in _ _).1 (xor8_in _ _).2)))))
      refine wpQuiet_nil ?_
      intro _ hw'
      obtain ⟨x, hw''⟩ := hw'
      subst hw''
      have hfz := (rowIs_later hM x.h).frozen (o + 3)
      have hmc := (rowIs_later hM x.h).cell (i := o + 3) (by omega)
      clear D3 E3
      go_wp2
      go_end0
      refine ⟨rfl, ((rowIs_later hM x.h).set (o + 3) _).congr (fun j _ => ?_), grownBy_set (grownBy_later hb x.h) _⟩
      by_cases hj : j = o + 3
      · subst hj
        simp [mixC, mixAll, xor8]
      · have e : (o ≤ j ∧ j < o + 4) = (o ≤ j ∧ j < o + 3) := propext (by omega)
        simp only [if_neg hj, e]
end Go.Proofs.YtipehnojibdfeaaGreat

/- The contract of the cipher's encipher: it computes its Lean twin. -/
namespace Go.Proofs.YtipehnojibdfeaaGreat
open Go Go.Proofs Go.RowKit

def bk16 (s : Nat → Int) : Array Value := Array.ofFn (n := 16) fun i => Value.int .u8 (s i.1)
theorem bk16_size (s : Nat → Int) : (bk16 s).size = 16 := by simp [bk16]
theorem bk16_get (s : Nat → Int) (i : Nat) (h : i < 16) : (bk16 s)[i]? = some (.int .u8 (s i)) := by simp [bk16, h]
theorem rowIs_bk16 {w : World} {b : Nat} {t : TypeId} {s : Nat → Int} (h : w.rowIs b t 16 (fun i => .int .u8 (s i))) : Blk w b t (bk16 s) := by
  obtain ⟨c, h1, h2, h3⟩ := h
  have : c = bk16 s := by
    apply Array.ext_getElem?
    intro i
    by_cases hi : i < 16
    · rw [h3 i hi, bk16_get s i hi]
    · rw [Array.getElem?_eq_none (by omega), Array.getElem?_eq_none (by rw [bk16_size]; omega)]
  rw [← this]
  exact h1
theorem bk16_rowIs {w : World} {b : Nat} {t : TypeId} {s : Nat → Int} (h : Blk w b t (bk16 s)) : w.rowIs b t 16 (fun i => .int .u8 (s i)) := ⟨_, h, bk16_size s, fun i hi => bk16_get s i hi⟩
theorem bk16_all (s : Nat → Int) : (bk16 s).all (·.oneCell') = true := by
  rw [Array.all_eq_true_iff_forall_mem]
  intro v hv
  simp only [bk16, Array.mem_ofFn] at hv
  obtain ⟨i, rfl⟩ := hv
  rfl
theorem bk16_congr {s t : Nat → Int} (h : ∀ i, i < 16 → s i = t i) : bk16 s = bk16 t := by
  apply Array.ext_getElem?
  intro i
  by_cases hi : i < 16
  · rw [bk16_get s i hi, bk16_get t i hi, h i hi]
  · rw [Array.getElem?_eq_none (by rw [bk16_size]; omega), Array.getElem?_eq_none (by rw [bk16_size]; omega)]

theorem box_index (x : Int) (h0 : 0 ≤ x) (h1 : x < 256) (W : World) : (Instr.index 163 (.agg boxAgg) (.int .u8 x)).run Tryz.prog W = .ok (.int .u8 (sbox x)) W := by
  have e : ((x.toNat : Nat) : Int) = x := by omega
  have h := run_index_agg (P := Tryz.prog) 163 5 256 boxAgg .u8 x.toNat Tryz.underlying163 Tryz.sizeOf5 Tryz.isAgg5 (by omega) _ (boxAgg_get x.toNat (by omega)) W
  rw [e] at h
  exact h

def subT (s : Nat → Int) (i : Nat) : Int := sbox (s ((i + 4 * (i % 4)) % 16))
def mix4 (t : Nat → Int) (j : Nat) : Int := mixC (fun i => t (4 * (j / 4) + i)) (j % 4)
def roundE (c : Nat → Int) (s : Nat → Int) (r : Nat) : Nat → Int := addK c (r + 1) (if r < 13 then mix4 (subT s) else subT s) 16
def roundsE (c : Nat → Int) (s : Nat → Int) : Nat → (Nat → Int)
  | 0 => addK c 0 s 16
  | r + 1 => roundE c (roundsE c s r) r
/-- a block, enciphered -/
def encF (c s : Nat → Int) : Nat → Int := roundsE c s 14
theorem addK_in (c s : Nat → Int) (r i : Nat) (h : i < 16) : 0 ≤ addK c r s 16 i ∧ addK c r s 16 i < 256 := by
  simp only [addK, if_pos h]; exact xor8_in _ _
theorem roundsE_in (c s : Nat → Int) (r i : Nat) (h : i < 16) : 0 ≤ roundsE c s r i ∧ roundsE c s r i < 256 := by
  cases r with
  | zero => exact addK_in _ _ _ _ h
  | succ r => exact addK_in _ _ _ _ h

set_option maxRecDepth 100000 in
set_option maxHeartbeats 4000000 in
theorem enc_sub (w : World) (sB tB : Nat) (s t : Nat → Int) (hne : sB ≠ tB) (hsr : ∀ i, i < 16 → 0 ≤ s i ∧ s i < 256) (hS : w.rowIs sB 146 16 (fun i => .int .u8 (s i))) (hTb : w.rowIs tB 146 16 (fun i => .int .u8 (t i)))
    {c0 c1 c2 c4 c5 i7 c8 c9 c10 c11 c12 c13 c14 i16 i17 i18 i19 i20 i21 i22 i23 i24 i25 i26 i27 i28 i29 i30 c31 c32 c33 c34 c35 c36 c37 c38 c39 c40 c41 c42 c43 c44 c45 c46 c47 c48 c49 : Value}
    (Q : Exit → Act → World → Prop) (hQ : ∀ (u7 u15 u16 u17 u18 u19 u20 u21 u22 u23 u24 u25 u26 u27 u28 u29 u30 : Value) (w' : World), w'.rowIs tB 146 16 (fun j => .int .u8 (subT s j)) ∧ w.grownBy w' (some tB) → Q .normal ⟨(c0 :: c1 :: c2 :: .pointer (some ⟨sB, 0, none⟩) :: c4 :: c5 :: .pointer (some ⟨tB, 0, none⟩) :: u7 :: c8 :: c9 :: c10 :: c11 :: c12 :: c13 :: c14 :: u15 :: u16 :: u17 :: u18 :: u19 :: u20 :: u21 :: u22 :: u23 :: u24 :: u25 :: u26 :: u27 :: u28 :: u29 :: u30 :: c31 :: c32 :: c33 :: c34 :: c35 :: c36 :: c37 :: c38 :: c39 :: c40 :: c41 :: c42 :: c43 :: c44 :: c45 :: c46 :: c47 :: c48 :: c49 :: []).toArray, []⟩ w') :
    (codeBlock 2 Tryz.f104).wp Tryz.prog Q ⟨(c0 :: c1 :: c2 :: .pointer (some ⟨sB, 0, none⟩) :: c4 :: c5 :: .pointer (some ⟨tB, 0, none⟩) :: i7 :: c8 :: c9 :: c10 :: c11 :: c12 :: c13 :: c14 :: .int .i64 0 :: i16 :: i17 :: i18 :: i19 :: i20 :: i21 :: i22 :: i23 :: i24 :: i25 :: i26 :: i27 :: i28 :: i29 :: i30 :: c31 :: c32 :: c33 :: c34 :: c35 :: c36 :: c37 :: c38 :: c39 :: c40 :: c41 :: c42 :: c43 :: c44 :: c45 :: c46 :: c47 :: c48 :: c49 :: []).toArray, []⟩ w := by
  conv => arg 2; whnf
  go_wp2_with fail
  go_loopw [15] (fun i wr => ∃ k : Nat, k ≤ 16 ∧ i = .int .i64 k ∧ wr.rowIs tB 146 16 (fun j => .int .u8 (if j < k then subT s j else t j)) ∧ w.grownBy wr (some tB)) (fun i _ => 16 - (intOf i).toNat)
  case atStart => exact ⟨0, by omega, rfl, by simpa using hTb, grownBy_refl _ _⟩
  case round =>
    clear hTb
    obtain ⟨k, hk, rfl, hT, hb⟩ := hrel
    by_cases hk16 : k < 16
    · have hSr := rowIs_grown hS hb (by simp; omega)
      obtain ⟨we, hwe⟩ : ∃ we, we = wr := ⟨_, rfl⟩
      rw [← hwe]
      rw [← hwe] at hSr hT hb
      clear hwe
      have hx := hsr ((k + 4 * (k % 4)) % 16) (by omega)
      have hidx := box_index (s ((k + 4 * (k % 4)) % 16)) hx.1 hx.2
      have C1 := later_cell (hSr.cell (i := (k + 4 * (k % 4)) % 16) (by omega))
      clear hS hSr hsr
      go_wp2_with fail
      refine wp_region_later_tail 12 (by kernel_rfl) (by kernel_rfl) ?_
      simp only [List.take_succ_cons, List.take_zero, List.drop_succ_cons, List.drop_zero]
      repeat (go_big_quiet_step (((go_at_call 112; exact later_of (box_any _)))))
      refine wpQuiet_nil ?_
      intro _ hw'
      obtain ⟨x, hw''⟩ := hw'
      subst hw''
      have hfz := (rowIs_later hT x.h).frozen k
      have hmc := (rowIs_later hT x.h).cell (i := k) hk16
      go_wp2
      go_roundw
      case rel =>
        refine ⟨k + 1, by omega, by go_num, ((rowIs_later hT x.h).set k _).congr (fun j _ => ?_), grownBy_set (grownBy_later hb x.h) _⟩
        by_cases hj : j = k
        · subst hj; simp [subT]
        · simp [hj, show (j < k + 1) = (j < k) from propext (by omega)]
      case measure => simp [intOf]; omega
    · obtain rfl : k = 16 := by omega
      go_wp2
      exact ⟨hT.congr (fun i hi => by simp [hi]), hb⟩

theorem slice16 (tB : Nat) : ∀ (m : Nat) (_ : m < 4) (W : World), (Instr.sliceAt 146 (.pointer (some ⟨tB, 0, none⟩)) (some (.int .i64 ((4 * m : Nat) : Int))) (some (.int .i64 (((4 * m : Nat) : Int) + 4))) none).run Tryz.prog W = .ok (.slice (some ⟨tB, 4 * m, none⟩) 4 (16 - 4 * m)) W
  | 0, _, _ => by kernel_rfl
  | 1, _, _ => by kernel_rfl
  | 2, _, _ => by kernel_rfl
  | 3, _, _ => by kernel_rfl

set_option maxRecDepth 100000 in
set_option maxHeartbeats 4000000 in
theorem enc_mix (w : World) (tB : Nat) (t : Nat → Int) (hT0 : w.rowIs tB 146 16 (fun i => .int .u8 (t i)))
    {c0 c1 c2 c3 c4 c5 c7 c10 c11 c12 c13 c14 c15 c16 c17 c18 c19 c20 c21 c22 c23 c24 c25 c26 c27 c28 c29 c30 c31 c32 i33 i34 i35 i36 i37 i38 i39 i40 i41 i42 c43 c44 c45 c46 c47 c48 c49 : Value}
    (Q : Exit → Act → World → Prop) (hQ : ∀ (u9 u33 u34 u35 u36 u37 u38 u39 u40 u41 u42 : Value) (w' : World), w'.rowIs tB 146 16 (fun j => .int .u8 (mix4 t j)) ∧ w.grownBy w' (some tB) → Q .normal ⟨(c0 :: c1 :: c2 :: c3 :: c4 :: c5 :: .pointer (some ⟨tB, 0, none⟩) :: c7 :: .func (.func 115) #[] #[] :: u9 :: c10 :: c11 :: c12 :: c13 :: c14 :: c15 :: c16 :: c17 :: c18 :: c19 :: c20 :: c21 :: c22 :: c23 :: c24 :: c25 :: c26 :: c27 :: c28 :: c29 :: c30 :: c31 :: c32 :: u33 :: u34 :: u35 :: u36 :: u37 :: u38 :: u39 :: u40 :: u41 :: u42 :: c43 :: c44 :: c45 :: c46 :: c47 :: c48 :: c49 :: []).toArray, []⟩ w') :
    (codeBlock 4 Tryz.f104).wp Tryz.prog Q ⟨(c0 :: c1 :: c2 :: c3 :: c4 :: c5 :: .pointer (some ⟨tB, 0, none⟩) :: c7 :: .func (.func 115) #[] #[] :: .int .i64 0 :: c10 :: c11 :: c12 :: c13 :: c14 :: c15 :: c16 :: c17 :: c18 :: c19 :: c20 :: c21 :: c22 :: c23 :: c24 :: c25 :: c26 :: c27 :: c28 :: c29 :: c30 :: c31 :: c32 :: i33 :: i34 :: i35 :: i36 :: i37 :: i38 :: i39 :: i40 :: i41 :: i42 :: c43 :: c44 :: c45 :: c46 :: c47 :: c48 :: c49 :: []).toArray, []⟩ w := by
  conv => arg 2; whnf
  go_wp2_with fail
  go_loopw [9] (fun i wr => ∃ m : Nat, m ≤ 4 ∧ i = .int .i64 ((4 * m : Nat) : Int) ∧ wr.rowIs tB 146 16 (fun j => .int .u8 (if j < 4 * m then mix4 t j else t j)) ∧ w.grownBy wr (some tB)) (fun i _ => 16 - (intOf i).toNat)
  case atStart => exact ⟨0, by omega, rfl, by simpa using hT0, grownBy_refl _ _⟩
  case round =>
    clear hT0
    obtain ⟨m, hm, rfl, hT, hb⟩ := hrel
    obtain ⟨k, hk⟩ : ∃ k, k = 4 * m := ⟨_, rfl⟩
    rw [← hk] at hT
    rw [← hk]
    have HK : Hid (k = 4 * m) := hk
    have hk16 : k ≤ 16 := by omega
    have hk4 : m < 4 → k + 4 ≤ 16 := by omega
    clear hk
    by_cases hm4 : m < 4
    · have hk4' := hk4 hm4
      have hkl : k < 16 := by omega
      clear hk4
      have hsl := slice16 tB m hm4
      rw [← HK.out] at hsl
      go_wp2_with fail
      refine (mix_any wr tB k 4 (16 - k) (Nat.le_refl _) _ hk4' hT).mono ?_
      rintro e w1 ⟨rfl, hT1, hb1⟩
      have hb2 := grownBy_trans hb hb1
      have hT2 : w1.rowIs tB 146 16 (fun j => .int .u8 (if j < 4 * (m + 1) then mix4 t j else t j)) := hT1.congr (fun j hj => by
        have hke := HK.out
        by_cases h1 : k ≤ j ∧ j < k + 4
        · have e1 : j / 4 = m := by omega
          have e2 : j - k = j % 4 := by omega
          have e3 : (fun i => if k + i < k then mix4 t (k + i) else t (k + i)) = fun i => t (4 * m + i) := by
            funext i; rw [if_neg (by omega), hke]
          rw [if_pos h1, if_pos (by omega), mix4, e1, e2, e3]
        · rw [if_neg h1]
          by_cases h2 : j < k
          · rw [if_pos h2, if_pos (by omega)]
          · rw [if_neg h2, if_neg (by omega)])
      have hk5 : k + 4 = 4 * (m + 1) := by have := HK.out; omega
      clear hT hT1 hb hb1 hsl
      have HK5 : Hid (k + 4 = 4 * (m + 1)) := hk5
      clear hk5
      go_wp2
      go_roundw
      case rel => exact ⟨m + 1, by omega, by rw [← HK5.out]; go_num, hT2, hb2⟩
      case measure => simp [intOf]; omega
    · have hke : k = 16 := by have := HK.out; omega
      subst hke
      go_wp2
      exact ⟨hT.congr (fun i hi => by simp [hi]), hb⟩
end Go.Proofs.YtipehnojibdfeaaGreat

/- The contract of the cipher's encipher, whole. -/
namespace Go.Proofs.YtipehnojibdfeaaGreat
open Go Go.Proofs Go.RowKit

theorem wpList_load_blk {P : Program} {ops : Array Oper} {rest : List Oper} {o : Oper} {a : Act} {w : World} {Q : Exit → Act → World → Prop} (hgd : o.guard = none) (ty : TypeId) (x : Operand) (ho : o.op = .load ty x)
    (g : Nat) (hx : a.eval x = .pointer (some ⟨g, 0, none⟩)) (t : TypeId) (cs : Array Value) (d : TypeDesc) (hg : Blk w g t cs)
    (hu : P.underlying ty = some d) (hd : (match d with | .struct _ | .array _ _ => true | _ => false) = true) (hi : (P.info? ty).map (·.size) = some cs.size)
    (h : wpList P ops Q rest (a.put o.dst (.agg cs)) w) : wpList P ops Q (o :: rest) a w :=
  wpList_load_row hgd ty x ho g hx t cs (0, 0) d hg hu hd hi h
theorem cipher_info : (Tryz.prog.info? 146).map (·.size) = some 16 := by kernel_rfl
theorem row16_zero (w : World) : (w.alloc (.cells #[.int .u8 0, .int .u8 0, .int .u8 0, .int .u8 0, .int .u8 0, .int .u8 0, .int .u8 0, .int .u8 0, .int .u8 0, .int .u8 0, .int .u8 0, .int .u8 0, .int .u8 0, .int .u8 0, .int .u8 0, .int .u8 0] 146)).rowIs w.heap.size 146 16 (fun _ => .int .u8 0) :=
  bk16_rowIs (s := fun _ => 0) (Blk.new w _ _)

set_option maxRecDepth 100000 in
set_option maxHeartbeats 4000000 in
theorem enc_round (w : World) (cB sB r : Nat) (hr : r < 14) (c s : Nat → Int) (hne : cB ≠ sB) (hsr : ∀ i, i < 16 → 0 ≤ s i ∧ s i < 256) (hC : w.rowIs cB 162 240 (fun i => .int .u8 (c i))) (hS : w.rowIs sB 146 16 (fun i => .int .u8 (s i)))
    {c1 c2 c4 i5 i6 i7 i8 i9 c10 c11 c13 i14 i15 i16 i17 i18 i19 i20 i21 i22 i23 i24 i25 i26 i27 i28 i29 i30 i31 i32 i33 i34 i35 i36 i37 i38 i39 i40 i41 i42 i43 i44 i45 i46 i47 c48 c49 : Value}
    (Q : Exit → Act → World → Prop) (hQ : ∀ (u5 u6 u7 u8 u9 u14 u15 u16 u17 u18 u19 u20 u21 u22 u23 u24 u25 u26 u27 u28 u29 u30 u31 u32 u33 u34 u35 u36 u37 u38 u39 u40 u41 u42 u43 u44 u45 u46 u47 : Value) (w' : World), w'.rowIs sB 146 16 (fun j => .int .u8 (roundE c s r j)) ∧ w.grownBy w' (some sB) → Q .normal ⟨(.pointer (some ⟨cB, 0, none⟩) :: c1 :: c2 :: .pointer (some ⟨sB, 0, none⟩) :: c4 :: u5 :: u6 :: u7 :: u8 :: u9 :: c10 :: c11 :: .int .i64 r :: c13 :: u14 :: u15 :: u16 :: u17 :: u18 :: u19 :: u20 :: u21 :: u22 :: u23 :: u24 :: u25 :: u26 :: u27 :: u28 :: u29 :: u30 :: u31 :: u32 :: u33 :: u34 :: u35 :: u36 :: u37 :: u38 :: u39 :: u40 :: u41 :: u42 :: u43 :: u44 :: u45 :: u46 :: u47 :: c48 :: c49 :: []).toArray, []⟩ w') :
    (codeBlock 1 Tryz.f104).wp Tryz.prog Q ⟨(.pointer (some ⟨cB, 0, none⟩) :: c1 :: c2 :: .pointer (some ⟨sB, 0, none⟩) :: c4 :: i5 :: i6 :: i7 :: i8 :: i9 :: c10 :: c11 :: .int .i64 r :: c13 :: i14 :: i15 :: i16 :: i17 :: i18 :: i19 :: i20 :: i21 :: i22 :: i23 :: i24 :: i25 :: i26 :: i27 :: i28 :: i29 :: i30 :: i31 :: i32 :: i33 :: i34 :: i35 :: i36 :: i37 :: i38 :: i39 :: i40 :: i41 :: i42 :: i43 :: i44 :: i45 :: i46 :: i47 :: c48 :: c49 :: []).toArray, []⟩ w := by
  conv => arg 2; whnf
  have hcl := hC.lt
  have hsl := hS.lt
  go_upto_block 2 with (fail)
  have hT1 := row16_zero w
  have hS1 := hS.alloc (.cells #[.int .u8 0, .int .u8 0, .int .u8 0, .int .u8 0, .int .u8 0, .int .u8 0, .int .u8 0, .int .u8 0, .int .u8 0, .int .u8 0, .int .u8 0, .int .u8 0, .int .u8 0, .int .u8 0, .int .u8 0, .int .u8 0] 146)
  refine enc_sub _ sB w.heap.size s (fun _ => 0) (by omega) hsr hS1 hT1 _ ?_
  intros
  rename_i w1 h1
  obtain ⟨hT, g1⟩ := h1
  have b1 : Below w.heap.size w w1 := ((Below.refl _ _).alloc (Nat.le_refl _) _).trans (below_of_grownBy g1 (Nat.le_refl _) (by simp))
  have hCr := rowIs_later hC b1
  have hSr := rowIs_later hS b1
  clear hT1 hS1 g1
  obtain ⟨tB, htB⟩ : ∃ tB, tB = w.heap.size := ⟨_, rfl⟩
  rw [← htB] at hT hcl hsl
  simp only [← htB]
  have htB' : w.heap.size ≤ tB := by omega
  have htB2 : tB ≤ w.heap.size := by omega
  clear htB
  have htl := hT.lt
  by_cases hr13 : r < 13
  · have hrd : decide ((r : Int) < 13) = true := by simp; omega
    go_upto_block 4 with (fail)
    refine enc_mix _ tB (subT s) hT _ ?_
    intros
    rename_i w2 h2
    obtain ⟨hT2, g2⟩ := h2
    have hC2 := rowIs_grown hCr g2 (by simp; omega)
    have hS2 := rowIs_grown hSr g2 (by simp; omega)
    have b2 : Below w.heap.size w w2 := b1.trans (below_of_grownBy g2 htB' (by omega))
    clear hT hCr hSr g2 b1 htl
    go_wp2_with fail
    have ha := add_any w2 cB tB (r + 1) (by omega) c _ (by omega) hC2 hT2
    rw [Int.natCast_succ] at ha
    with_reducible refine ha.mono ?_
    rintro e w3 ⟨rfl, hT3, g3⟩
    clear ha
    have hS3 := rowIs_grown hS2 g3 (by simp; omega)
    have b3 : Below w.heap.size w w3 := b2.trans (below_of_grownBy g3 htB' (by have := hT2.lt; omega))
    have hb3 := rowIs_bk16 hT3
    have hs3 := rowIs_bk16 hS3
    have hi1 : (Tryz.prog.info? 146).map (·.size) = some (bk16 (addK c (r + 1) (mix4 (subT s)) 16)).size := by rw [bk16_size]; exact cipher_info
    clear hT2 hS2 hC2 b2 hT3 hS3
    go_wp2_with (first
      | ((with_reducible refine wpList_load_blk (o := ⟨some 47, .load _ _, _, _, _, _⟩) rfl 146 (.tmp 6) rfl tB rfl 146 _ _ hb3 Tryz.underlying146 rfl hi1 ?_))
      | ((with_reducible refine wpList_store_row (op := ⟨none, .store _ _ _, _, _, _, _⟩) rfl 146 (.tmp 3) (.tmp 47) rfl sB 146 _ _ rfl rfl hs3 hi1 (by rw [bk16_size, bk16_size]) (bk16_all _) ?_)))
    have e : roundE c s r = addK c (r + 1) (mix4 (subT s)) 16 := by rw [roundE, if_pos hr13]
    rw [e]
    exact ⟨bk16_rowIs (hs3.setRow _), grownBy_setRow (grownBy_of_below b3 _) _⟩
  · have hrd : decide ((r : Int) < 13) = false := by simp; omega
    go_wp2_with fail
    have ha := add_any w1 cB tB (r + 1) (by omega) c _ (by omega) hCr hT
    rw [Int.natCast_succ] at ha
    with_reducible refine ha.mono ?_
    rintro e w3 ⟨rfl, hT3, g3⟩
    clear ha
    have hS3 := rowIs_grown hSr g3 (by simp; omega)
    have b3 : Below w.heap.size w w3 := b1.trans (below_of_grownBy g3 htB' (by omega))
    have hb3 := rowIs_bk16 hT3
    have hs3 := rowIs_bk16 hS3
    have hi1 : (Tryz.prog.info? 146).map (·.size) = some (bk16 (addK c (r + 1) (subT s) 16)).size := by rw [bk16_size]; exact cipher_info
    clear hT hSr hCr b1 hT3 hS3
    go_wp2_with (first
      | ((with_reducible refine wpList_load_blk (o := ⟨some 47, .load _ _, _, _, _, _⟩) rfl 146 (.tmp 6) rfl tB rfl 146 _ _ hb3 Tryz.underlying146 rfl hi1 ?_))
      | ((with_reducible refine wpList_store_row (op := ⟨none, .store _ _ _, _, _, _, _⟩) rfl 146 (.tmp 3) (.tmp 47) rfl sB 146 _ _ rfl rfl hs3 hi1 (by rw [bk16_size, bk16_size]) (bk16_all _) ?_)))
    have e : roundE c s r = addK c (r + 1) (subT s) 16 := by rw [roundE, if_neg hr13]
    rw [e]
    exact ⟨bk16_rowIs (hs3.setRow _), grownBy_setRow (grownBy_of_below b3 _) _⟩

set_option maxRecDepth 100000 in
set_option maxHeartbeats 4000000 in
theorem enc_rounds (w : World) (cB sB : Nat) (c s : Nat → Int) (hne : cB ≠ sB) (hC : w.rowIs cB 162 240 (fun i => .int .u8 (c i))) (hS0 : w.rowIs sB 146 16 (fun i => .int .u8 (roundsE c s 0 i)))
    {c1 c2 c4 i5 i6 i7 i8 i9 c10 c11 i13 i14 i15 i16 i17 i18 i19 i20 i21 i22 i23 i24 i25 i26 i27 i28 i29 i30 i31 i32 i33 i34 i35 i36 i37 i38 i39 i40 i41 i42 i43 i44 i45 i46 i47 i48 c49 : Value}
    (Q : Exit → Act → World → Prop) (hQ : ∀ (u5 u6 u7 u8 u9 u12 u13 u14 u15 u16 u17 u18 u19 u20 u21 u22 u23 u24 u25 u26 u27 u28 u29 u30 u31 u32 u33 u34 u35 u36 u37 u38 u39 u40 u41 u42 u43 u44 u45 u46 u47 u48 : Value) (w' : World), w'.rowIs sB 146 16 (fun j => .int .u8 (encF c s j)) ∧ w.grownBy w' (some sB) → Q .normal ⟨(.pointer (some ⟨cB, 0, none⟩) :: c1 :: c2 :: .pointer (some ⟨sB, 0, none⟩) :: c4 :: u5 :: u6 :: u7 :: u8 :: u9 :: c10 :: c11 :: u12 :: u13 :: u14 :: u15 :: u16 :: u17 :: u18 :: u19 :: u20 :: u21 :: u22 :: u23 :: u24 :: u25 :: u26 :: u27 :: u28 :: u29 :: u30 :: u31 :: u32 :: u33 :: u34 :: u35 :: u36 :: u37 :: u38 :: u39 :: u40 :: u41 :: u42 :: u43 :: u44 :: u45 :: u46 :: u47 :: u48 :: c49 :: []).toArray, []⟩ w') :
    (codeBlock 0 Tryz.f104).wp Tryz.prog Q ⟨(.pointer (some ⟨cB, 0, none⟩) :: c1 :: c2 :: .pointer (some ⟨sB, 0, none⟩) :: c4 :: i5 :: i6 :: i7 :: i8 :: i9 :: c10 :: c11 :: .int .i64 0 :: i13 :: i14 :: i15 :: i16 :: i17 :: i18 :: i19 :: i20 :: i21 :: i22 :: i23 :: i24 :: i25 :: i26 :: i27 :: i28 :: i29 :: i30 :: i31 :: i32 :: i33 :: i34 :: i35 :: i36 :: i37 :: i38 :: i39 :: i40 :: i41 :: i42 :: i43 :: i44 :: i45 :: i46 :: i47 :: i48 :: c49 :: []).toArray, []⟩ w := by
  conv => arg 2; whnf
  go_wp2_with fail
  go_loopw [12] (fun i wr => ∃ r : Nat, r ≤ 14 ∧ i = .int .i64 r ∧ wr.rowIs sB 146 16 (fun i => .int .u8 (roundsE c s r i)) ∧ w.grownBy wr (some sB)) (fun i _ => 14 - (intOf i).toNat)
  case atStart => exact ⟨0, by omega, rfl, hS0, grownBy_refl _ _⟩
  case round =>
    clear hS0
    obtain ⟨r, hr, rfl, hS, hb⟩ := hrel
    by_cases hr14 : r < 14
    · have hCr := rowIs_grown hC hb (by simp; omega)
      have hrd : decide ((r : Int) < 14) = true := by simp; omega
      have hsr := roundsE_in c s r
      go_upto_block 1 with (fail)
      refine enc_round _ cB sB r hr14 c _ hne hsr hCr hS _ ?_
      intros
      rename_i w1 h1
      obtain ⟨hS1, g1⟩ := h1
      have hb2 := grownBy_trans hb g1
      clear hS hb g1 hsr hCr
      go_wp2
      go_roundw
      case rel => exact ⟨r + 1, by omega, by go_num, hS1, hb2⟩
      case measure => simp [intOf]; omega
    · obtain rfl : r = 14 := by omega
      go_wp2
      exact ⟨hS, hb⟩

set_option maxRecDepth 100000 in
set_option maxHeartbeats 2000000 in
theorem encipher_any (w : World) (cB : Nat) (c s : Nat → Int) (hC : w.rowIs cB 162 240 (fun i => .int .u8 (c i))) :
    Calls Tryz.prog 104 #[.pointer (some ⟨cB, 0, none⟩), .agg (bk16 s)] w fun e w' => e = .returned (.agg (bk16 (encF c s))) ∧ Below w.heap.size w w' := by
  have hcl := hC.lt
  go_enter Tryz.func104, Tryz.ntmps104
  go_wp2_with fail
  have hS0 : (w.alloc (.cells (bk16 s) 146)).rowIs w.heap.size 146 16 (fun i => .int .u8 (s i)) := bk16_rowIs (Blk.new _ _ _)
  have hS1 := hS0.alloc (.cells #[.int .u8 0, .int .u8 0, .int .u8 0, .int .u8 0, .int .u8 0, .int .u8 0, .int .u8 0, .int .u8 0, .int .u8 0, .int .u8 0, .int .u8 0, .int .u8 0, .int .u8 0, .int .u8 0, .int .u8 0, .int .u8 0] 146)
  have hR1 := row16_zero (w.alloc (.cells (bk16 s) 146))
  have q1 : Below w.heap.size w ((w.alloc (.cells (bk16 s) 146)).alloc (.cells #[.int .u8 0, .int .u8 0, .int .u8 0, .int .u8 0, .int .u8 0, .int .u8 0, .int .u8 0, .int .u8 0, .int .u8 0, .int .u8 0, .int .u8 0, .int .u8 0, .int .u8 0, .int .u8 0, .int .u8 0, .int .u8 0] 146)) := ((Below.refl _ _).alloc (Nat.le_refl _) _).alloc (by simp) _
  have hC1 := rowIs_later hC q1
  obtain ⟨w1, hw1⟩ : ∃ w1, w1 = (w.alloc (.cells (bk16 s) 146)).alloc (.cells #[.int .u8 0, .int .u8 0, .int .u8 0, .int .u8 0, .int .u8 0, .int .u8 0, .int .u8 0, .int .u8 0, .int .u8 0, .int .u8 0, .int .u8 0, .int .u8 0, .int .u8 0, .int .u8 0, .int .u8 0, .int .u8 0] 146) := ⟨_, rfl⟩
  rw [← hw1] at hS1 hR1 q1 hC1
  rw [← hw1]
  clear hw1 hS0
  rw [World.size_alloc] at hR1
  obtain ⟨sB, hsB⟩ : ∃ sB, sB = w.heap.size := ⟨_, rfl⟩
  rw [← hsB] at hS1 hR1 hcl
  simp only [← hsB]
  have hsB' : w.heap.size ≤ sB := by omega
  have hsB2 : sB ≤ w.heap.size := by omega
  clear hsB
  have hcne : cB ≠ sB := by omega
  have ha := add_any w1 cB sB 0 (by omega) c _ hcne hC1 hS1
  rw [Int.natCast_zero] at ha
  with_reducible refine ha.mono ?_
  rintro e w2 ⟨rfl, hS2, g2⟩
  have hC2 := rowIs_grown hC1 g2 (by simp; omega)
  have hR2 := rowIs_grown hR1 g2 (by simp)
  have b2 : Below w.heap.size w w2 := q1.trans (below_of_grownBy g2 hsB' q1.size)
  clear ha hS1 hR1 hC1 q1 g2
  have hS2' : w2.rowIs sB 146 16 (fun i => .int .u8 (roundsE c s 0 i)) := hS2
  go_upto_block 0 with (fail)
  refine enc_rounds _ cB sB c s hcne hC2 hS2' _ ?_
  intros
  rename_i w3 h3
  obtain ⟨hS3, g3⟩ := h3
  have hR3 := rowIs_grown hR2 g3 (by simp)
  have b3 : Below w.heap.size w w3 := b2.trans (below_of_grownBy g3 hsB' b2.size)
  have hs3 := rowIs_bk16 hS3
  have hr3 := rowIs_bk16 (s := fun _ => 0) hR3
  have hi1 : (Tryz.prog.info? 146).map (·.size) = some (bk16 (encF c s)).size := by rw [bk16_size]; exact cipher_info
  clear hS2 hS2' hC2 hR2 b2 g3 hS3 hR3
  go_wp2_with (first
    | ((with_reducible refine wpList_load_blk (o := ⟨some 49, .load _ _, _, _, _, _⟩) rfl 146 (.tmp 3) rfl sB rfl 146 _ _ hs3 Tryz.underlying146 rfl hi1 ?_))
    | ((with_reducible refine wpList_store_row (op := ⟨none, .store _ _ _, _, _, _, _⟩) rfl 146 (.tmp 4) (.tmp 49) rfl (sB + 1) 146 _ _ rfl rfl hr3 hi1 (by rw [bk16_size, bk16_size]) (bk16_all _) ?_)))
  refine bodyPost_ret (results_cell_row rfl _ _ (sB + 1) 146 (bk16 (encF c s)) (0, 0) _ rfl (hr3.setRow _) Tryz.underlying146 rfl hi1) rfl ?_
  exact ⟨rfl, below_setRow' b3 (by omega) _⟩
end Go.Proofs.YtipehnojibdfeaaGreat
