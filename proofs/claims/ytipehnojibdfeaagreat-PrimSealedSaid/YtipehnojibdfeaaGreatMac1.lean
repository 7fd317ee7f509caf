/- Contracts of mac's turner, its closure, and Hmac: each computes its Lean twin. -/
import Derived.Test.YtipehnojibdfeaaGreatHash6
import Derived.Test.YtipehnojibdfeaaGreatShelf
import Derived.Lib.BufferWrite
import Derived.Lib.Join
namespace Go.Proofs.YtipehnojibdfeaaGreat
open Go Go.Proofs Go.RowKit

/-- a key's block of 64 bytes -/
def hkey (F K : Nat → Int) (key : List UInt8) : List UInt8 := if 64 < key.length then digest32F F K key else key
def hblk (F K : Nat → Int) (key : List UInt8) : List UInt8 := hkey F K key ++ List.replicate (64 - (hkey F K key).length) 0
theorem hkey_length (F K : Nat → Int) (key : List UInt8) : (hkey F K key).length ≤ 64 := by
  unfold hkey; split
  · rw [digest32F_length]; omega
  · omega
theorem hblk_length (F K : Nat → Int) (key : List UInt8) : (hblk F K key).length = 64 := by
  have := hkey_length F K key
  simp [hblk]; omega
/-- a byte turned by another one -/
def xor8 (a b : Int) : Int := bits .xor .u8 a b
theorem xor8_in (a b : Int) : 0 ≤ xor8 a b ∧ xor8 a b < 256 := by
  unfold xor8 bits; rw [IntKind.wrap_u8]; omega
def xorL (l : List UInt8) (b : Int) : List UInt8 := l.map fun x => (xor8 x.toNat b).toNat.toUInt8
theorem xorL_length (l : List UInt8) (b : Int) : (xorL l b).length = l.length := by simp [xorL]
theorem toUInt8_int {x : Int} (h : 0 ≤ x ∧ x < 256) : ((x.toNat.toUInt8).toNat : Int) = x := by
  have e : (x.toNat.toUInt8).toNat = x.toNat % 256 := UInt8.toNat_ofNat'
  rw [e]; omega
/-- HMAC of a key and bytes -/
def hmacF (F K : Nat → Int) (key l : List UInt8) : List UInt8 := digest32F F K (xorL (hblk F K key) 92 ++ digest32F F K (xorL (hblk F K key) 54 ++ l))
theorem hmacF_length (F K : Nat → Int) (key l : List UInt8) : (hmacF F K key l).length = 32 := digest32F_length _ _ _

theorem reads_one (w : World) (v : Value) (t : TypeId) : Reads (w.alloc (.cells #[v] t)) (w.alloc (.cells #[v] t)).heap.size 1 (some ⟨w.heap.size, 0, none⟩) 1 [v] := by
  refine ⟨rfl, fun _ => ⟨_, rfl, by simp, fun j u hj => ?_⟩⟩
  match j, hj with
  | 0, hj => simp at hj; subst hj; simp [Addr.add]
theorem reads_two (w : World) (u v : Value) (t : TypeId) : Reads (w.alloc (.cells #[u, v] t)) (w.alloc (.cells #[u, v] t)).heap.size 1 (some ⟨w.heap.size, 0, none⟩) 2 [u, v] := by
  refine ⟨rfl, fun _ => ⟨_, rfl, by simp, fun j x hj => ?_⟩⟩
  match j, hj with
  | 0, hj => simp at hj; subst hj; simp [Addr.add]
  | 1, hj => simp at hj; subst hj; simp [Addr.add]
theorem reads_three (w : World) (u v x : Value) (t : TypeId) : Reads (w.alloc (.cells #[u, v, x] t)) (w.alloc (.cells #[u, v, x] t)).heap.size 1 (some ⟨w.heap.size, 0, none⟩) 3 [u, v, x] := by
  refine ⟨rfl, fun _ => ⟨_, rfl, by simp, fun j x hj => ?_⟩⟩
  match j, hj with
  | 0, hj => simp at hj; subst hj; simp [Addr.add]
  | 1, hj => simp at hj; subst hj; simp [Addr.add]
  | 2, hj => simp at hj; subst hj; simp [Addr.add]

def TurnerPost (w : World) (blk : List UInt8) (e : Ending) (w' : World) : Prop :=
  ∃ b, e = .returned (.func (.func 109) #[] #[.pointer (some ⟨b, 0, none⟩)]) ∧ w.heap.size ≤ b ∧ Blk w' b 154 (Lib.byteCells blk).toArray ∧ Below w.heap.size w w'

theorem byteAt_in (l : List UInt8) (i : Nat) : 0 ≤ byteAt l i ∧ byteAt l i < 256 := by
  simp only [byteAt]; have := (l.getD i 0).toNat_lt; omega
theorem byteAt_get (l : List UInt8) (i : Nat) (h : i < l.length) : byteAt l i = (l[i].toNat : Int) := by
  simp [byteAt, List.getD_eq_getElem?_getD, List.getElem?_eq_getElem h]
theorem rowIs_bytes {w : World} {g : Nat} {t : TypeId} {l : List UInt8} (h : Blk w g t (Lib.byteCells l).toArray) : w.rowIs g t l.length (fun j => .int .u8 (byteAt l j)) := by
  refine ⟨_, h, by simp [Lib.byteCells], fun i hi => ?_⟩
  simp [Lib.byteCells, byteAt_get l i hi, List.getElem?_eq_getElem hi]
theorem bytes_rowIs {w : World} {g : Nat} {t : TypeId} {l : List UInt8} {n : Nat} {f : Nat → Int} (h : w.rowIs g t n (fun j => .int .u8 (f j))) (hn : l.length = n) (hf : ∀ i (hi : i < l.length), f i = (l[i].toNat : Int)) :
    ∀ j (hj : j < l.length), w.cell? ((⟨g, 0, none⟩ : Addr).add j) = some (.int .u8 (l[j].toNat : Int)) := by
  intro j hj
  rw [← hf j hj, show ((⟨g, 0, none⟩ : Addr).add j) = ⟨g, j, none⟩ from by unfold Addr.add; split <;> simp_all]
  exact h.cell (by omega)

theorem byteInfoSize : (Tryz.prog.info? 5).map (·.size) = some 1 := by kernel_rfl

theorem copied (N : Nat) (key : List UInt8) :
    ((List.replicate N (Value.int .u8 0)).take 0 ++ Lib.byteCells key ++ (List.replicate N (Value.int .u8 0)).drop (0 + key.length)).toArray = (Lib.byteCells (key ++ List.replicate (N - key.length) 0)).toArray := by
  simp [Lib.byteCells, List.drop_replicate]

set_option maxRecDepth 100000 in
set_option maxHeartbeats 2000000 in
theorem turner_short (w : World) (key : ByteArray) (hk : key.size ≤ 64) :
    Calls Tryz.prog 100 #[.string key] w (TurnerPost w (key.data.toList ++ List.replicate (64 - key.size) 0)) := by
  go_enter Tryz.func100, Tryz.ntmps100
  have hz : (#[.int .u8 0, .int .u8 0, .int .u8 0, .int .u8 0, .int .u8 0, .int .u8 0, .int .u8 0, .int .u8 0, .int .u8 0, .int .u8 0, .int .u8 0, .int .u8 0, .int .u8 0, .int .u8 0, .int .u8 0, .int .u8 0, .int .u8 0, .int .u8 0, .int .u8 0, .int .u8 0, .int .u8 0, .int .u8 0, .int .u8 0, .int .u8 0, .int .u8 0, .int .u8 0, .int .u8 0, .int .u8 0, .int .u8 0, .int .u8 0, .int .u8 0, .int .u8 0, .int .u8 0, .int .u8 0, .int .u8 0, .int .u8 0, .int .u8 0, .int .u8 0, .int .u8 0, .int .u8 0, .int .u8 0, .int .u8 0, .int .u8 0, .int .u8 0, .int .u8 0, .int .u8 0, .int .u8 0, .int .u8 0, .int .u8 0, .int .u8 0, .int .u8 0, .int .u8 0, .int .u8 0, .int .u8 0, .int .u8 0, .int .u8 0, .int .u8 0, .int .u8 0, .int .u8 0, .int .u8 0, .int .u8 0, .int .u8 0, .int .u8 0, .int .u8 0] : Array Value) = (List.replicate 64 (.int .u8 0)).toArray := rfl
  have hcp : (Builtin.copy_ #[30, 9] 3 #[.slice (some ⟨w.heap.size, 0, none⟩) 64 64, .string key]).run Tryz.prog (w.alloc (.cells #[.int .u8 0, .int .u8 0, .int .u8 0, .int .u8 0, .int .u8 0, .int .u8 0, .int .u8 0, .int .u8 0, .int .u8 0, .int .u8 0, .int .u8 0, .int .u8 0, .int .u8 0, .int .u8 0, .int .u8 0, .int .u8 0, .int .u8 0, .int .u8 0, .int .u8 0, .int .u8 0, .int .u8 0, .int .u8 0, .int .u8 0, .int .u8 0, .int .u8 0, .int .u8 0, .int .u8 0, .int .u8 0, .int .u8 0, .int .u8 0, .int .u8 0, .int .u8 0, .int .u8 0, .int .u8 0, .int .u8 0, .int .u8 0, .int .u8 0, .int .u8 0, .int .u8 0, .int .u8 0, .int .u8 0, .int .u8 0, .int .u8 0, .int .u8 0, .int .u8 0, .int .u8 0, .int .u8 0, .int .u8 0, .int .u8 0, .int .u8 0, .int .u8 0, .int .u8 0, .int .u8 0, .int .u8 0, .int .u8 0, .int .u8 0, .int .u8 0, .int .u8 0, .int .u8 0, .int .u8 0, .int .u8 0, .int .u8 0, .int .u8 0, .int .u8 0] 154)) =
      .ok (goInt key.size) ((w.alloc (.cells #[.int .u8 0, .int .u8 0, .int .u8 0, .int .u8 0, .int .u8 0, .int .u8 0, .int .u8 0, .int .u8 0, .int .u8 0, .int .u8 0, .int .u8 0, .int .u8 0, .int .u8 0, .int .u8 0, .int .u8 0, .int .u8 0, .int .u8 0, .int .u8 0, .int .u8 0, .int .u8 0, .int .u8 0, .int .u8 0, .int .u8 0, .int .u8 0, .int .u8 0, .int .u8 0, .int .u8 0, .int .u8 0, .int .u8 0, .int .u8 0, .int .u8 0, .int .u8 0, .int .u8 0, .int .u8 0, .int .u8 0, .int .u8 0, .int .u8 0, .int .u8 0, .int .u8 0, .int .u8 0, .int .u8 0, .int .u8 0, .int .u8 0, .int .u8 0, .int .u8 0, .int .u8 0, .int .u8 0, .int .u8 0, .int .u8 0, .int .u8 0, .int .u8 0, .int .u8 0, .int .u8 0, .int .u8 0, .int .u8 0, .int .u8 0, .int .u8 0, .int .u8 0, .int .u8 0, .int .u8 0, .int .u8 0, .int .u8 0, .int .u8 0, .int .u8 0] 154)).setRow w.heap.size (Lib.byteCells (key.data.toList ++ List.replicate (64 - key.size) 0)).toArray) := by
    have h := Lib.run_copy_row_string (P := Tryz.prog) (w.alloc (.cells #[.int .u8 0, .int .u8 0, .int .u8 0, .int .u8 0, .int .u8 0, .int .u8 0, .int .u8 0, .int .u8 0, .int .u8 0, .int .u8 0, .int .u8 0, .int .u8 0, .int .u8 0, .int .u8 0, .int .u8 0, .int .u8 0, .int .u8 0, .int .u8 0, .int .u8 0, .int .u8 0, .int .u8 0, .int .u8 0, .int .u8 0, .int .u8 0, .int .u8 0, .int .u8 0, .int .u8 0, .int .u8 0, .int .u8 0, .int .u8 0, .int .u8 0, .int .u8 0, .int .u8 0, .int .u8 0, .int .u8 0, .int .u8 0, .int .u8 0, .int .u8 0, .int .u8 0, .int .u8 0, .int .u8 0, .int .u8 0, .int .u8 0, .int .u8 0, .int .u8 0, .int .u8 0, .int .u8 0, .int .u8 0, .int .u8 0, .int .u8 0, .int .u8 0, .int .u8 0, .int .u8 0, .int .u8 0, .int .u8 0, .int .u8 0, .int .u8 0, .int .u8 0, .int .u8 0, .int .u8 0, .int .u8 0, .int .u8 0, .int .u8 0, .int .u8 0] 154)) 30 9 3 5 w.heap.size 0 64 64 key #[.int .u8 0, .int .u8 0, .int .u8 0, .int .u8 0, .int .u8 0, .int .u8 0, .int .u8 0, .int .u8 0, .int .u8 0, .int .u8 0, .int .u8 0, .int .u8 0, .int .u8 0, .int .u8 0, .int .u8 0, .int .u8 0, .int .u8 0, .int .u8 0, .int .u8 0, .int .u8 0, .int .u8 0, .int .u8 0, .int .u8 0, .int .u8 0, .int .u8 0, .int .u8 0, .int .u8 0, .int .u8 0, .int .u8 0, .int .u8 0, .int .u8 0, .int .u8 0, .int .u8 0, .int .u8 0, .int .u8 0, .int .u8 0, .int .u8 0, .int .u8 0, .int .u8 0, .int .u8 0, .int .u8 0, .int .u8 0, .int .u8 0, .int .u8 0, .int .u8 0, .int .u8 0, .int .u8 0, .int .u8 0, .int .u8 0, .int .u8 0, .int .u8 0, .int .u8 0, .int .u8 0, .int .u8 0, .int .u8 0, .int .u8 0, .int .u8 0, .int .u8 0, .int .u8 0, .int .u8 0, .int .u8 0, .int .u8 0, .int .u8 0, .int .u8 0] 154 Tryz.underlying30 byteInfoSize (heap_alloc_new w _) hk (by simpa using hk)
    rw [h, hz, List.toList_toArray]
    have e : key.size = key.data.toList.length := rfl
    rw [e, copied 64 key.data.toList]
  have hkd : decide (64 < key.size) = false := by simp; omega
  clear hz
  go_wp2_with fail
  go_ret
  have hb := heap_alloc_new w (.cells #[.int .u8 0, .int .u8 0, .int .u8 0, .int .u8 0, .int .u8 0, .int .u8 0, .int .u8 0, .int .u8 0, .int .u8 0, .int .u8 0, .int .u8 0, .int .u8 0, .int .u8 0, .int .u8 0, .int .u8 0, .int .u8 0, .int .u8 0, .int .u8 0, .int .u8 0, .int .u8 0, .int .u8 0, .int .u8 0, .int .u8 0, .int .u8 0, .int .u8 0, .int .u8 0, .int .u8 0, .int .u8 0, .int .u8 0, .int .u8 0, .int .u8 0, .int .u8 0, .int .u8 0, .int .u8 0, .int .u8 0, .int .u8 0, .int .u8 0, .int .u8 0, .int .u8 0, .int .u8 0, .int .u8 0, .int .u8 0, .int .u8 0, .int .u8 0, .int .u8 0, .int .u8 0, .int .u8 0, .int .u8 0, .int .u8 0, .int .u8 0, .int .u8 0, .int .u8 0, .int .u8 0, .int .u8 0, .int .u8 0, .int .u8 0, .int .u8 0, .int .u8 0, .int .u8 0, .int .u8 0, .int .u8 0, .int .u8 0, .int .u8 0, .int .u8 0] 154)
  refine ⟨_, rfl, Nat.le_refl _, setRow_heap _ _ _ _ _ _ hb, ?_⟩
  exact ⟨rfl, rfl, rfl, by simp, fun k hk => (setRow_other _ _ _ _ (by omega)).trans (Below.heap_alloc _ _ _ hk)⟩

set_option maxRecDepth 100000 in
set_option maxHeartbeats 2000000 in
theorem turner_any (w : World) (key : ByteArray) (hk : key.size ≤ 140737488351232) (F K : Nat → Int) (hT : Tabs w F K) :
    Calls Tryz.prog 100 #[.string key] w (TurnerPost w (hblk F K key.data.toList)) := by
  by_cases h : key.size ≤ 64
  · have e : hblk F K key.data.toList = key.data.toList ++ List.replicate (64 - key.size) 0 := by
      have e1 : key.data.toList.length = key.size := rfl
      rw [hblk, hkey, if_neg (by omega), e1]
    rw [e]
    exact turner_short w key h
  · have e1 : key.data.toList.length = key.size := rfl
    have hk1 : hkey F K key.data.toList = digest32F F K key.data.toList := by rw [hkey, if_pos (by omega)]
    obtain ⟨dk, hdk⟩ : ∃ dk : ByteArray, dk = ⟨(digest32F F K key.data.toList).toArray⟩ := ⟨_, rfl⟩
    have hds : dk.size = 32 := by rw [hdk]; show (digest32F F K key.data.toList).toArray.size = 32; simp [digest32F_length]
    have e : hblk F K key.data.toList = dk.data.toList ++ List.replicate (64 - dk.size) 0 := by
      have e2 : dk.data.toList = digest32F F K key.data.toList := by rw [hdk]
      rw [hblk, hk1, e2, hds, digest32F_length]
    rw [e]
    have hT1 : Tabs (w.alloc (.cells #[.string key] 9)) F K := hT.later ((Below.refl _ _).alloc (Nat.le_refl _) _)
    have hcat : catS [key] = key.data.toList := by simp [catS]
    have hc := sha256_any (w.alloc (.cells #[.string key] 9)) [key] (some ⟨w.heap.size, 0, none⟩) 1 1 (reads_one w (.string key) 9) (by rw [hcat, e1]; exact hk) (by omega) F K hT1
    rw [hcat, ← hdk] at hc
    have HC : Hid (Calls Tryz.prog 101 #[.slice (some ⟨w.heap.size, 0, none⟩) 1 1] (w.alloc (.cells #[.string key] 9)) fun e w' => e = .returned (.string dk) ∧ Below (w.alloc (.cells #[.string key] 9)).heap.size (w.alloc (.cells #[.string key] 9)) w') := hc
    have hkd : decide (64 < key.size) = true := by simp; omega
    clear hc hcat hT1 hT hk1 hdk e e1
    go_enter Tryz.func100, Tryz.ntmps100
    go_wp2_with fail
    refine HC.out.mono ?_
    rintro e w1 ⟨rfl, hb1⟩
    have hb : Below w.heap.size w w1 := ((Below.refl _ _).alloc (Nat.le_refl _) _).trans (hb1.mono (by simp))
    clear HC hb1
    have hz : (#[.int .u8 0, .int .u8 0, .int .u8 0, .int .u8 0, .int .u8 0, .int .u8 0, .int .u8 0, .int .u8 0, .int .u8 0, .int .u8 0, .int .u8 0, .int .u8 0, .int .u8 0, .int .u8 0, .int .u8 0, .int .u8 0, .int .u8 0, .int .u8 0, .int .u8 0, .int .u8 0, .int .u8 0, .int .u8 0, .int .u8 0, .int .u8 0, .int .u8 0, .int .u8 0, .int .u8 0, .int .u8 0, .int .u8 0, .int .u8 0, .int .u8 0, .int .u8 0, .int .u8 0, .int .u8 0, .int .u8 0, .int .u8 0, .int .u8 0, .int .u8 0, .int .u8 0, .int .u8 0, .int .u8 0, .int .u8 0, .int .u8 0, .int .u8 0, .int .u8 0, .int .u8 0, .int .u8 0, .int .u8 0, .int .u8 0, .int .u8 0, .int .u8 0, .int .u8 0, .int .u8 0, .int .u8 0, .int .u8 0, .int .u8 0, .int .u8 0, .int .u8 0, .int .u8 0, .int .u8 0, .int .u8 0, .int .u8 0, .int .u8 0, .int .u8 0] : Array Value) = (List.replicate 64 (.int .u8 0)).toArray := rfl
    have hcp : (Builtin.copy_ #[30, 9] 3 #[.slice (some ⟨w1.heap.size, 0, none⟩) 64 64, .string dk]).run Tryz.prog (w1.alloc (.cells #[.int .u8 0, .int .u8 0, .int .u8 0, .int .u8 0, .int .u8 0, .int .u8 0, .int .u8 0, .int .u8 0, .int .u8 0, .int .u8 0, .int .u8 0, .int .u8 0, .int .u8 0, .int .u8 0, .int .u8 0, .int .u8 0, .int .u8 0, .int .u8 0, .int .u8 0, .int .u8 0, .int .u8 0, .int .u8 0, .int .u8 0, .int .u8 0, .int .u8 0, .int .u8 0, .int .u8 0, .int .u8 0, .int .u8 0, .int .u8 0, .int .u8 0, .int .u8 0, .int .u8 0, .int .u8 0, .int .u8 0, .int .u8 0, .int .u8 0, .int .u8 0, .int .u8 0, .int .u8 0, .int .u8 0, .int .u8 0, .int .u8 0, .int .u8 0, .int .u8 0, .int .u8 0, .int .u8 0, .int .u8 0, .int .u8 0, .int .u8 0, .int .u8 0, .int .u8 0, .int .u8 0, .int .u8 0, .int .u8 0, .int .u8 0, .int .u8 0, .int .u8 0, .int .u8 0, .int .u8 0, .int .u8 0, .int .u8 0, .int .u8 0, .int .u8 0] 154)) =
        .ok (goInt dk.size) ((w1.alloc (.cells #[.int .u8 0, .int .u8 0, .int .u8 0, .int .u8 0, .int .u8 0, .int .u8 0, .int .u8 0, .int .u8 0, .int .u8 0, .int .u8 0, .int .u8 0, .int .u8 0, .int .u8 0, .int .u8 0, .int .u8 0, .int .u8 0, .int .u8 0, .int .u8 0, .int .u8 0, .int .u8 0, .int .u8 0, .int .u8 0, .int .u8 0, .int .u8 0, .int .u8 0, .int .u8 0, .int .u8 0, .int .u8 0, .int .u8 0, .int .u8 0, .int .u8 0, .int .u8 0, .int .u8 0, .int .u8 0, .int .u8 0, .int .u8 0, .int .u8 0, .int .u8 0, .int .u8 0, .int .u8 0, .int .u8 0, .int .u8 0, .int .u8 0, .int .u8 0, .int .u8 0, .int .u8 0, .int .u8 0, .int .u8 0, .int .u8 0, .int .u8 0, .int .u8 0, .int .u8 0, .int .u8 0, .int .u8 0, .int .u8 0, .int .u8 0, .int .u8 0, .int .u8 0, .int .u8 0, .int .u8 0, .int .u8 0, .int .u8 0, .int .u8 0, .int .u8 0] 154)).setRow w1.heap.size (Lib.byteCells (dk.data.toList ++ List.replicate (64 - dk.size) 0)).toArray) := by
      have h := Lib.run_copy_row_string (P := Tryz.prog) (w1.alloc (.cells #[.int .u8 0, .int .u8 0, .int .u8 0, .int .u8 0, .int .u8 0, .int .u8 0, .int .u8 0, .int .u8 0, .int .u8 0, .int .u8 0, .int .u8 0, .int .u8 0, .int .u8 0, .int .u8 0, .int .u8 0, .int .u8 0, .int .u8 0, .int .u8 0, .int .u8 0, .int .u8 0, .int .u8 0, .int .u8 0, .int .u8 0, .int .u8 0, .int .u8 0, .int .u8 0, .int .u8 0, .int .u8 0, .int .u8 0, .int .u8 0, .int .u8 0, .int .u8 0, .int .u8 0, .int .u8 0, .int .u8 0, .int .u8 0, .int .u8 0, .int .u8 0, .int .u8 0, .int .u8 0, .int .u8 0, .int .u8 0, .int .u8 0, .int .u8 0, .int .u8 0, .int .u8 0, .int .u8 0, .int .u8 0, .int .u8 0, .int .u8 0, .int .u8 0, .int .u8 0, .int .u8 0, .int .u8 0, .int .u8 0, .int .u8 0, .int .u8 0, .int .u8 0, .int .u8 0, .int .u8 0, .int .u8 0, .int .u8 0, .int .u8 0, .int .u8 0] 154)) 30 9 3 5 w1.heap.size 0 64 64 dk #[.int .u8 0, .int .u8 0, .int .u8 0, .int .u8 0, .int .u8 0, .int .u8 0, .int .u8 0, .int .u8 0, .int .u8 0, .int .u8 0, .int .u8 0, .int .u8 0, .int .u8 0, .int .u8 0, .int .u8 0, .int .u8 0, .int .u8 0, .int .u8 0, .int .u8 0, .int .u8 0, .int .u8 0, .int .u8 0, .int .u8 0, .int .u8 0, .int .u8 0, .int .u8 0, .int .u8 0, .int .u8 0, .int .u8 0, .int .u8 0, .int .u8 0, .int .u8 0, .int .u8 0, .int .u8 0, .int .u8 0, .int .u8 0, .int .u8 0, .int .u8 0, .int .u8 0, .int .u8 0, .int .u8 0, .int .u8 0, .int .u8 0, .int .u8 0, .int .u8 0, .int .u8 0, .int .u8 0, .int .u8 0, .int .u8 0, .int .u8 0, .int .u8 0, .int .u8 0, .int .u8 0, .int .u8 0, .int .u8 0, .int .u8 0, .int .u8 0, .int .u8 0, .int .u8 0, .int .u8 0, .int .u8 0, .int .u8 0, .int .u8 0, .int .u8 0] 154 Tryz.underlying30 byteInfoSize (heap_alloc_new w1 _) (by omega) (by rw [hds]; simp)
      rw [h, hz, List.toList_toArray]
      have e : dk.size = dk.data.toList.length := rfl
      rw [e, copied 64 dk.data.toList]
    clear hz hds
    go_wp2_with fail
    go_ret
    have hbn := heap_alloc_new w1 (.cells #[.int .u8 0, .int .u8 0, .int .u8 0, .int .u8 0, .int .u8 0, .int .u8 0, .int .u8 0, .int .u8 0, .int .u8 0, .int .u8 0, .int .u8 0, .int .u8 0, .int .u8 0, .int .u8 0, .int .u8 0, .int .u8 0, .int .u8 0, .int .u8 0, .int .u8 0, .int .u8 0, .int .u8 0, .int .u8 0, .int .u8 0, .int .u8 0, .int .u8 0, .int .u8 0, .int .u8 0, .int .u8 0, .int .u8 0, .int .u8 0, .int .u8 0, .int .u8 0, .int .u8 0, .int .u8 0, .int .u8 0, .int .u8 0, .int .u8 0, .int .u8 0, .int .u8 0, .int .u8 0, .int .u8 0, .int .u8 0, .int .u8 0, .int .u8 0, .int .u8 0, .int .u8 0, .int .u8 0, .int .u8 0, .int .u8 0, .int .u8 0, .int .u8 0, .int .u8 0, .int .u8 0, .int .u8 0, .int .u8 0, .int .u8 0, .int .u8 0, .int .u8 0, .int .u8 0, .int .u8 0, .int .u8 0, .int .u8 0, .int .u8 0, .int .u8 0] 154)
    refine ⟨_, rfl, hb.size, setRow_heap _ _ _ _ _ _ hbn, ?_⟩
    exact below_setRow' (hb.alloc hb.size _) hb.size _

set_option maxRecDepth 100000 in
set_option maxHeartbeats 2000000 in
theorem turn_any (w : World) (b : Nat) (l : List UInt8) (by_ : Int) (h0 : 0 ≤ by_) (h1 : by_ < 256) (hl : l.length = 64) (hb : Blk w b 154 (Lib.byteCells l).toArray) :
    Calls Tryz.prog 109 #[.int .u8 by_, .pointer (some ⟨b, 0, none⟩)] w fun e w' => e = .returned (.string ⟨(xorL l by_).toArray⟩) ∧ Below w.heap.size w w' := by
  have hsz : (Lib.byteCells l).toArray.size = 64 := by simp [Lib.byteCells, hl]
  have hbl := hb.lt
  have hi64 : (Tryz.prog.info? 154).map (·.size) = some (Lib.byteCells l).toArray.size := by rw [hsz]; kernel_rfl
  have hb1 : Blk (w.alloc (.cells #[.int .u8 0, .int .u8 0, .int .u8 0, .int .u8 0, .int .u8 0, .int .u8 0, .int .u8 0, .int .u8 0, .int .u8 0, .int .u8 0, .int .u8 0, .int .u8 0, .int .u8 0, .int .u8 0, .int .u8 0, .int .u8 0, .int .u8 0, .int .u8 0, .int .u8 0, .int .u8 0, .int .u8 0, .int .u8 0, .int .u8 0, .int .u8 0, .int .u8 0, .int .u8 0, .int .u8 0, .int .u8 0, .int .u8 0, .int .u8 0, .int .u8 0, .int .u8 0, .int .u8 0, .int .u8 0, .int .u8 0, .int .u8 0, .int .u8 0, .int .u8 0, .int .u8 0, .int .u8 0, .int .u8 0, .int .u8 0, .int .u8 0, .int .u8 0, .int .u8 0, .int .u8 0, .int .u8 0, .int .u8 0, .int .u8 0, .int .u8 0, .int .u8 0, .int .u8 0, .int .u8 0, .int .u8 0, .int .u8 0, .int .u8 0, .int .u8 0, .int .u8 0, .int .u8 0, .int .u8 0, .int .u8 0, .int .u8 0, .int .u8 0, .int .u8 0] 154)) w.heap.size 154 #[.int .u8 0, .int .u8 0, .int .u8 0, .int .u8 0, .int .u8 0, .int .u8 0, .int .u8 0, .int .u8 0, .int .u8 0, .int .u8 0, .int .u8 0, .int .u8 0, .int .u8 0, .int .u8 0, .int .u8 0, .int .u8 0, .int .u8 0, .int .u8 0, .int .u8 0, .int .u8 0, .int .u8 0, .int .u8 0, .int .u8 0, .int .u8 0, .int .u8 0, .int .u8 0, .int .u8 0, .int .u8 0, .int .u8 0, .int .u8 0, .int .u8 0, .int .u8 0, .int .u8 0, .int .u8 0, .int .u8 0, .int .u8 0, .int .u8 0, .int .u8 0, .int .u8 0, .int .u8 0, .int .u8 0, .int .u8 0, .int .u8 0, .int .u8 0, .int .u8 0, .int .u8 0, .int .u8 0, .int .u8 0, .int .u8 0, .int .u8 0, .int .u8 0, .int .u8 0, .int .u8 0, .int .u8 0, .int .u8 0, .int .u8 0, .int .u8 0, .int .u8 0, .int .u8 0, .int .u8 0, .int .u8 0, .int .u8 0, .int .u8 0, .int .u8 0] := Blk.new _ _ _
  go_enter Tryz.func109, Tryz.ntmps109
  go_upto_block 0 with (first
    | (refine wpList_load_row rfl 154 (.tmp 1) rfl b rfl 154 _ _ _ hb Tryz.underlying154 rfl hi64 ?_)
    | (refine wpList_store_row rfl 154 (.tmp 4) (.tmp 6) rfl w.heap.size 154 _ _ rfl rfl hb1 hi64 (by rw [hsz]; rfl) (byteCells_all _) ?_))
  obtain ⟨w1, hw1⟩ : ∃ w1, w1 = (w.alloc (.cells #[.int .u8 0, .int .u8 0, .int .u8 0, .int .u8 0, .int .u8 0, .int .u8 0, .int .u8 0, .int .u8 0, .int .u8 0, .int .u8 0, .int .u8 0, .int .u8 0, .int .u8 0, .int .u8 0, .int .u8 0, .int .u8 0, .int .u8 0, .int .u8 0, .int .u8 0, .int .u8 0, .int .u8 0, .int .u8 0, .int .u8 0, .int .u8 0, .int .u8 0, .int .u8 0, .int .u8 0, .int .u8 0, .int .u8 0, .int .u8 0, .int .u8 0, .int .u8 0, .int .u8 0, .int .u8 0, .int .u8 0, .int .u8 0, .int .u8 0, .int .u8 0, .int .u8 0, .int .u8 0, .int .u8 0, .int .u8 0, .int .u8 0, .int .u8 0, .int .u8 0, .int .u8 0, .int .u8 0, .int .u8 0, .int .u8 0, .int .u8 0, .int .u8 0, .int .u8 0, .int .u8 0, .int .u8 0, .int .u8 0, .int .u8 0, .int .u8 0, .int .u8 0, .int .u8 0, .int .u8 0, .int .u8 0, .int .u8 0, .int .u8 0, .int .u8 0] 154)).setRow w.heap.size (Lib.byteCells l).toArray := ⟨_, rfl⟩
  have hV := rowIs_bytes (hb1.setRow (Lib.byteCells l).toArray)
  have hbw : Below w.heap.size w ((w.alloc (.cells #[.int .u8 0, .int .u8 0, .int .u8 0, .int .u8 0, .int .u8 0, .int .u8 0, .int .u8 0, .int .u8 0, .int .u8 0, .int .u8 0, .int .u8 0, .int .u8 0, .int .u8 0, .int .u8 0, .int .u8 0, .int .u8 0, .int .u8 0, .int .u8 0, .int .u8 0, .int .u8 0, .int .u8 0, .int .u8 0, .int .u8 0, .int .u8 0, .int .u8 0, .int .u8 0, .int .u8 0, .int .u8 0, .int .u8 0, .int .u8 0, .int .u8 0, .int .u8 0, .int .u8 0, .int .u8 0, .int .u8 0, .int .u8 0, .int .u8 0, .int .u8 0, .int .u8 0, .int .u8 0, .int .u8 0, .int .u8 0, .int .u8 0, .int .u8 0, .int .u8 0, .int .u8 0, .int .u8 0, .int .u8 0, .int .u8 0, .int .u8 0, .int .u8 0, .int .u8 0, .int .u8 0, .int .u8 0, .int .u8 0, .int .u8 0, .int .u8 0, .int .u8 0, .int .u8 0, .int .u8 0, .int .u8 0, .int .u8 0, .int .u8 0, .int .u8 0] 154)).setRow w.heap.size (Lib.byteCells l).toArray) := below_setRow' ((Below.refl _ _).alloc (Nat.le_refl _) _) (Nat.le_refl _) _
  rw [← hw1] at hV hbw
  rw [← hw1]
  rw [hl] at hV
  clear hw1 hb1 hi64 hsz
  go_wp2_with fail
  go_loopw [7] (fun i wr => ∃ k : Nat, k ≤ 64 ∧ i = .int .i64 k ∧ wr.rowIs w.heap.size 154 64 (fun j => .int .u8 (if j < k then xor8 (byteAt l j) by_ else byteAt l j)) ∧ Below w.heap.size w wr) (fun i _ => 64 - (intOf i).toNat)
  case atStart => exact ⟨0, by omega, rfl, by simpa using hV, hbw⟩
  case round =>
    clear hV hbw
    obtain ⟨k, hk, rfl, hV, hbw⟩ := hrel
    by_cases hk64 : k < 64
    · have hc : wr.cell? ⟨w.heap.size, k, none⟩ = some (.int .u8 (byteAt l k)) := by have := hV.cell hk64; simpa using this
      have hf := hV.frozen k
      have hr := byteAt_in l k
      go_wp2
      go_roundw
      case rel =>
        refine ⟨k + 1, by omega, by go_num, (hV.set k _).congr (fun j _ => ?_), hbw.setCell (Nat.le_refl _) _⟩
        by_cases hj : j = k
        · subst hj; simp [xor8]
        · simp [hj, show (j < k + 1) = (j < k) from propext (by omega)]
      case measure => simp [intOf]; omega
    · obtain rfl : k = 64 := by omega
      have hc := bytes_rowIs (l := xorL l by_) hV (by rw [xorL_length, hl]) (fun i hi => by
        rw [xorL_length] at hi
        simp [xorL, show i < 64 by omega, byteAt_get l i hi]
        have := xor8_in (l[i].toNat : Int) by_
        omega)
      have hconv := run_convert_bytes_back (P := Tryz.prog) wr 30 9 5 ⟨w.heap.size, 0, none⟩ 64 (xorL l by_) Tryz.underlying30 Tryz.underlying5 Tryz.underlying9 hc
      rw [xorL_length, hl] at hconv
      clear hc hV
      go_wp2
      go_ret
      exact ⟨rfl, hbw⟩
theorem intersperse_nil (xs : List (List UInt8)) : (xs.intersperse []).flatten = xs.flatten := by
  induction xs with
  | nil => rfl
  | cons x xs ih =>
    cases xs with
    | nil => rfl
    | cons y ys => simp only [List.intersperse, List.flatten_cons, List.nil_append] at ih ⊢; rw [ih]
theorem join_nil (xs : List (List UInt8)) : Lib.join xs [] = xs.flatten := by
  unfold Lib.join
  simp only [List.intercalate]
  exact intersperse_nil xs
theorem addr_add (b o j : Nat) : (⟨b, o, none⟩ : Addr).add j = ⟨b, o + j, none⟩ := by
  unfold Addr.add
  split
  · rename_i h; subst h; rfl
  · rfl
theorem bytes_append (a b : List UInt8) : ((⟨a.toArray⟩ : ByteArray) ++ (⟨b.toArray⟩ : ByteArray)).data.toList = a ++ b := by
  simp
theorem catS_flatten (ss : List ByteArray) : (ss.map (·.data.toList)).flatten = catS ss := by simp [catS, List.flatMap]
theorem spot_of_cell {w : World} {a : Addr} {u : Value} (h : w.cell? a = some u) : a = ⟨a.block, a.off, none⟩ := by
  obtain ⟨b, o, s⟩ := a
  cases s with
  | none => rfl
  | some x =>
    simp only [World.cell?] at h
    split at h <;> simp at h
theorem Reads.addr {w : World} {B n : Nat} {A : Option Addr} {xs : List Value} (h : Reads w B 1 A n xs) (hn : 0 < n) : ∃ bk o, A = some ⟨bk, o, none⟩ ∧ bk < B ∧ ∀ j x, xs[j]? = some x → w.cell? ⟨bk, o + j, none⟩ = some x := by
  obtain ⟨ad, hA, hb, hc⟩ := h.2 hn
  have hl : 0 < xs.length := by have := h.1; omega
  have h0 := hc 0 _ (List.getElem?_eq_getElem hl)
  have h1 : ad.add 0 = ad := by simp [Addr.add]
  rw [h1] at h0
  have e := spot_of_cell h0
  refine ⟨ad.block, ad.off, by rw [hA, ← e], hb, fun j x hj => ?_⟩
  have := hc j x hj
  rw [e] at this
  rw [← addr_add]
  exact this

theorem join_any (w : World) (ss : List ByteArray) (pa : Option Addr) (n c : Nat) (hp : Reads w w.heap.size 1 pa n (ss.map .string)) (hc : n ≤ c) (hlen : (catS ss).length ≤ 100000000000000) (hn : n ≤ 100000000000000) :
    Calls Tryz.prog 102 #[.slice pa n c, .string ⟨#[]⟩] w fun e w' => e = .returned (.string ⟨(catS ss).toArray⟩) ∧ Below w.heap.size w w' := by
  have hnl : ss.length = n := by have := hp.1; simpa using this
  by_cases h0 : n = 0
  · subst h0
    have hs : ss = [] := List.eq_nil_of_length_eq_zero hnl
    subst hs
    refine (Tryz.strings_Join_none pa c ⟨#[]⟩ w).mono ?_
    rintro e w' ⟨rfl, rfl⟩
    exact ⟨rfl, Below.refl _ _⟩
  · obtain ⟨bk, o, rfl, hb, hcell⟩ := hp.addr (by omega)
    have hj : Lib.join (ss.map (·.data.toList)) (ByteArray.mk #[]).data.toList = catS ss := by
      rw [show (ByteArray.mk #[]).data.toList = [] from rfl, join_nil, catS_flatten]
    have h := Tryz.strings_Join bk o c ss ⟨#[]⟩ w (fun j x hx => hcell j _ (by simp [List.getElem?_map, hx])) hb (by omega) (by omega) (by rw [hj]; omega)
    rw [hj, hnl] at h
    exact h

set_option maxHeartbeats 2000000 in
theorem hmac_any (w : World) (key : ByteArray) (ss : List ByteArray) (pa : Option Addr) (n c : Nat) (hk : key.size ≤ 140737488351232) (hp : Reads w w.heap.size 1 pa n (ss.map .string)) (hc : n ≤ c) (hlen : (catS ss).length ≤ 100000000000000) (hn : n ≤ 100000000000000)
    (F K : Nat → Int) (hT : Tabs w F K) :
    Calls Tryz.prog 87 #[.string key, .slice pa n c] w fun e w' => e = .returned (.string ⟨(hmacF F K key.data.toList (catS ss)).toArray⟩) ∧ Below w.heap.size w w' := by
  obtain ⟨bl, hbl⟩ : ∃ bl, bl = hblk F K key.data.toList := ⟨_, rfl⟩
  have hbll : bl.length = 64 := by rw [hbl, hblk_length]
  have HB : Hid (bl = hblk F K key.data.toList) := hbl
  go_enter Tryz.func87, Tryz.ntmps87
  go_wp2_with fail
  refine (turner_any w key hk F K hT).mono ?_
  rintro e w1 ⟨b, rfl, hbge, hblkw, hb1⟩
  rw [← hbl] at hblkw
  clear hbl
  go_wp2_with fail
  refine (turn_any w1 b bl 54 (by decide) (by decide) hbll hblkw).mono ?_
  rintro e w2 ⟨rfl, hb2⟩
  have hb12 := hb1.trans (hb2.mono hb1.size)
  have hp2 := (hp.below hb12).more hb12.size
  go_wp2_with fail
  refine (join_any w2 ss pa n c hp2 hc hlen hn).mono ?_
  rintro e w3 ⟨rfl, hb3⟩
  have hb13 := hb12.trans (hb3.mono hb12.size)
  have hxl : (xorL bl 54).length ≤ 64 := by rw [xorL_length]; omega
  go_wp2_with fail
  obtain ⟨x1, hx1⟩ : ∃ x1 : ByteArray, x1 = (⟨(xorL bl 54).toArray⟩ : ByteArray) ++ (⟨(catS ss).toArray⟩ : ByteArray) := ⟨_, rfl⟩
  have hx1l : x1.data.toList = xorL bl 54 ++ catS ss := by rw [hx1, bytes_append]
  rw [← hx1]
  have hcat1 : catS [x1] = xorL bl 54 ++ catS ss := by simp only [catS, List.flatMap_cons, List.flatMap_nil, List.append_nil, hx1l]
  have hT3 : Tabs (w3.alloc (.cells #[.string x1] 9)) F K := hT.later (hb13.alloc hb13.size _)
  refine (sha256_any (w3.alloc (.cells #[.string x1] 9)) [x1] (some ⟨w3.heap.size, 0, none⟩) 1 1 (reads_one w3 (.string x1) 9) (by rw [hcat1, List.length_append]; omega) (by omega) F K hT3).mono ?_
  rintro e w4 ⟨rfl, hb4⟩
  rw [hcat1]
  have hb14 : Below w.heap.size w w4 := (hb13.alloc hb13.size _).trans (hb4.mono (by have := hb13.size; simp; omega))
  have hblk4 : Blk w4 b 154 (Lib.byteCells bl).toArray := by
    have h2 := hblkw.later hb2
    have h3 := (h2.later hb3).alloc (.cells #[.string x1] 9)
    exact h3.later hb4
  clear hx1 hx1l hcat1 hT3 hb13 hb12 hb1 hb2 hb3 hb4 hp2 hblkw hp
  go_wp2_with fail
  refine (turn_any w4 b bl 92 (by decide) (by decide) hbll hblk4).mono ?_
  rintro e w5 ⟨rfl, hb5⟩
  have hb15 := hb14.trans (hb5.mono hb14.size)
  obtain ⟨x2, hx2⟩ : ∃ x2 : ByteArray, x2 = ⟨(xorL bl 92).toArray⟩ := ⟨_, rfl⟩
  obtain ⟨x3, hx3⟩ : ∃ x3 : ByteArray, x3 = ⟨(digest32F F K (xorL bl 54 ++ catS ss)).toArray⟩ := ⟨_, rfl⟩
  rw [← hx2, ← hx3]
  have hcat2 : catS [x2, x3] = xorL bl 92 ++ digest32F F K (xorL bl 54 ++ catS ss) := by rw [hx2, hx3]; simp [catS]
  have HC2 : Hid (catS [x2, x3] = xorL bl 92 ++ digest32F F K (xorL bl 54 ++ catS ss)) := hcat2
  have HCL : (catS [x2, x3]).length ≤ 96 := by rw [hcat2, List.length_append, xorL_length, digest32F_length]; omega
  have hT5 : Tabs (w5.alloc (.cells #[.string x2, .string x3] 9)) F K := hT.later (hb15.alloc hb15.size _)
  clear hx2 hx3 hcat2 hb14 hb5 hblk4 hT
  go_wp2_with fail
  refine (sha256_any (w5.alloc (.cells #[.string x2, .string x3] 9)) [x2, x3] (some ⟨w5.heap.size, 0, none⟩) 2 2 (reads_two w5 (.string x2) (.string x3) 9) (by omega) (by omega) F K hT5).mono ?_
  rintro e w6 ⟨rfl, hb6⟩
  have hb16 : Below w.heap.size w w6 := (hb15.alloc hb15.size _).trans (hb6.mono (by have := hb15.size; simp; omega))
  clear hT5 hb6 hb15
  go_wp2
  go_ret
  refine ⟨?_, hb16⟩
  show Ending.returned (.string ⟨(digest32F F K (catS [x2, x3])).toArray⟩) = _
  rw [HC2.out, HB.out]
  rfl
end Go.Proofs.YtipehnojibdfeaaGreat
