/- The Lean twin of hash.digest at 32 bits, and small facts on memory that its walk uses. -/
import Derived.Test.YtipehnojibdfeaaGreatHash1
import Derived.Test.YtipehnojibdfeaaGreatAppZ
import Derived.Lib.AppendStr
import Derived.Lib.UnsafeStr
import Derived.Lib.VarintMem
import Derived.Deep.OwnRows
namespace Go.Proofs.YtipehnojibdfeaaGreat
open Go Go.Proofs Go.RowKit

def catS (ss : List ByteArray) : List UInt8 := ss.flatMap (·.data.toList)
theorem catS_snoc (ss : List ByteArray) (k : Nat) (h : k < ss.length) : catS (ss.take (k + 1)) = catS (ss.take k) ++ ss[k].data.toList := by
  rw [catS, List.take_succ_eq_append_getElem h, List.flatMap_append]; simp [catS]
theorem catS_take_le (ss : List ByteArray) (k : Nat) : (catS (ss.take k)).length ≤ (catS ss).length := by
  have h : catS ss = catS (ss.take k) ++ catS (ss.drop k) := by rw [catS, catS, catS, ← List.flatMap_append, List.take_append_drop]
  rw [h, List.length_append]; omega

theorem Tryz.infoByte : (Tryz.prog.info? 5).map (fun i => (i.zero, i.size, i.bytes)) = some (some (.int .u8 0), 1, 1) := by kernel_rfl

/-- how many zeros go behind the 128, at blocks of 64 -/
def zer32 (n : Nat) : Nat := (119 - n % 64) % 64
/-- the length's bytes, the first j of them -/
def lenB (n : Nat) (j : Nat) : List UInt8 := (List.range j).map fun t => (n / 2 ^ (8 * (7 - t)) % 256).toUInt8
theorem lenB_succ (n j : Nat) : lenB n (j + 1) = lenB n j ++ [(n / 2 ^ (8 * (7 - j)) % 256).toUInt8] := by simp [lenB, List.range_succ]
def pad32 (l : List UInt8) : List UInt8 := (l ++ [128] ++ List.replicate (zer32 l.length) 0) ++ lenB (l.length * 8) 8
def Tabs (w : World) (F K : Nat → Int) : Prop :=
  (∀ i, i < 8 → w.cell? ⟨0, i, none⟩ = some (.int .u64 (F i)) ∧ 0 ≤ F i ∧ F i < 18446744073709551616) ∧ (∀ i, i < 80 → w.cell? ⟨1, i, none⟩ = some (.int .u64 (K i)) ∧ 0 ≤ K i ∧ K i < 18446744073709551616)
theorem Tabs.later {w w' : World} {F K : Nat → Int} (h : Tabs w F K) (hb : Below w.heap.size w w') : Tabs w' F K :=
  ⟨fun i hi => ⟨Below.cell_some hb (h.1 i hi).1, (h.1 i hi).2⟩, fun i hi => ⟨Below.cell_some hb (h.2 i hi).1, (h.2 i hi).2⟩⟩
theorem Tabs.below {w w' : World} {F K : Nat → Int} {B : Nat} (h : Tabs w F K) (hb : Below B w w') (h1 : ∀ i, i < 8 → (⟨0, i, none⟩ : Addr).block < B) (h2 : ∀ i, i < 80 → (⟨1, i, none⟩ : Addr).block < B) : Tabs w' F K :=
  ⟨fun i hi => ⟨(hb.cell (h1 i hi)).trans (h.1 i hi).1, (h.1 i hi).2⟩, fun i hi => ⟨(hb.cell (h2 i hi)).trans (h.2 i hi).1, (h.2 i hi).2⟩⟩
def upd (f : Nat → Int) (i : Nat) (v : Int) : Nat → Int := fun j => if j = i then v else f j
def st32 (F : Nat → Int) (i : Nat) : Int := F i / 4294967296

def ldW32 (D : Nat → Int) (i : Nat) : Nat → Int
  | 0 => 0
  | k + 1 => bits .or .u32 (ldW32 D i k * 256 % 4294967296) (D (i * 4 + k))
def ld32 (m D : Nat → Int) : Nat → (Nat → Int)
  | 0 => m
  | i + 1 => upd (ld32 m D i) i (ldW32 D i 4)
def schW32 (m : Nat → Int) (i : Nat) : Int := (((moved32 (m (i - 2)) 17 19 10 + m (i - 7)) % 4294967296 + moved32 (m (i - 15)) 7 18 3) % 4294967296 + m (i - 16)) % 4294967296
def sch32 (m : Nat → Int) : Nat → (Nat → Int)
  | 0 => m
  | k + 1 => upd (sch32 m k) (16 + k) (schW32 (sch32 m k) (16 + k))
def tw32 (K m v : Nat → Int) (i : Nat) : Int := v 7 + mixed32 (v 4) 6 11 25 + bits .xor .u32 (bits .and .u32 (v 4) (v 5)) (bits .and .u32 (bits .xor .u32 IntKind.u32.max (v 4)) (v 6)) + K i / 4294967296 + m i
def uw32 (v : Nat → Int) : Int := mixed32 (v 0) 2 13 22 + bits .xor .u32 (bits .xor .u32 (bits .and .u32 (v 0) (v 1)) (bits .and .u32 (v 0) (v 2))) (bits .and .u32 (v 1) (v 2))
def rnd32s (K m v : Nat → Int) (i : Nat) : Nat → Int := fun j => if j = 0 then (tw32 K m v i + uw32 v) % 4294967296 else if j = 4 then (v 3 + tw32 K m v i) % 4294967296 else v (j - 1)
def rnd32 (K m s : Nat → Int) : Nat → (Nat → Int)
  | 0 => s
  | i + 1 => rnd32s K m (rnd32 K m s i) i
theorem row8_of (w : World) (t : TypeId) (s : Nat → Int) : (w.alloc (.cells #[.int .u32 (s 0), .int .u32 (s 1), .int .u32 (s 2), .int .u32 (s 3), .int .u32 (s 4), .int .u32 (s 5), .int .u32 (s 6), .int .u32 (s 7)] t)).rowIs w.heap.size t 8 (fun i => .int .u32 (s i)) :=
  World.rowIs_alloc w _ t _ (fun i hi => by have : i < 8 := hi; match i, this with | 0, _ => rfl | 1, _ => rfl | 2, _ => rfl | 3, _ => rfl | 4, _ => rfl | 5, _ => rfl | 6, _ => rfl | 7, _ => rfl)
def add32 (s v : Nat → Int) : Nat → (Nat → Int)
  | 0 => s
  | i + 1 => upd (add32 s v i) i ((add32 s v i i + v i) % 4294967296)
theorem add32_same (s v : Nat → Int) (k i : Nat) (h : k ≤ i) : add32 s v k i = s i := by
  induction k with
  | zero => rfl
  | succ k ih => rw [add32, upd, if_neg (by omega), ih (by omega)]
theorem add32_in (s v : Nat → Int) (k i : Nat) (h : 0 ≤ s i ∧ s i < 4294967296) : 0 ≤ add32 s v k i ∧ add32 s v k i < 4294967296 := by
  induction k with
  | zero => exact h
  | succ k ih => rw [add32, upd]; split <;> omega
def byteAt (l : List UInt8) (i : Nat) : Int := ((l.getD i 0).toNat : Int)
def blks32 (F K : Nat → Int) (P : List UInt8) : Nat → (Nat → Int) × (Nat → Int)
  | 0 => (st32 F, fun _ => 0)
  | j + 1 => let m := sch32 (ld32 (blks32 F K P j).2 (fun i => byteAt P (64 * j + i)) 16) 48; (add32 (blks32 F K P j).1 (rnd32 K m (blks32 F K P j).1 64) 8, m)
def outw32 (x : Int) (q : Nat) : List UInt8 := (List.range q).map fun t => (x / 2 ^ (8 * (3 - t)) % 256).toNat.toUInt8
def out32 (s : Nat → Int) (k : Nat) : List UInt8 := (List.range k).flatMap fun i => outw32 (s i) 4
/-- the digest of bytes, for tables F and K -/
def digest32F (F K : Nat → Int) (l : List UInt8) : List UInt8 := out32 (blks32 F K (pad32 l) ((pad32 l).length / 64)).1 8
theorem outw32_succ (x : Int) (q : Nat) : outw32 x (q + 1) = outw32 x q ++ [(x / 2 ^ (8 * (3 - q)) % 256).toNat.toUInt8] := by simp [outw32, List.range_succ]
theorem out32_succ (s : Nat → Int) (k : Nat) : out32 s (k + 1) = out32 s k ++ outw32 (s k) 4 := by simp [out32, List.range_succ]
theorem outw32_length (x : Int) (q : Nat) : (outw32 x q).length = q := by simp [outw32]
theorem out32_length (s : Nat → Int) (k : Nat) : (out32 s k).length = 4 * k := by
  induction k with
  | zero => rfl
  | succ k ih => rw [out32_succ, List.length_append, ih, outw32_length]; omega
theorem digest32F_length (F K : Nat → Int) (l : List UInt8) : (digest32F F K l).length = 32 := out32_length _ _

theorem blks32_in (F K : Nat → Int) (P : List UInt8) (hF : ∀ i, i < 8 → 0 ≤ F i ∧ F i < 18446744073709551616) (j i : Nat) (hi : i < 8) : 0 ≤ (blks32 F K P j).1 i ∧ (blks32 F K P j).1 i < 4294967296 := by
  induction j with
  | zero => have := hF i hi; simp only [blks32, st32]; omega
  | succ j ih => exact add32_in _ _ _ _ ih

theorem byteCells_snoc1 (pre : List UInt8) {a : Nat} (h : a < 256) : Lib.byteCells (pre ++ [a.toUInt8]) = Lib.byteCells pre ++ [Value.int .u8 (a : Int)] := Lib.byteCells_snoc pre h
def sliceLen : Value → Nat | .slice _ n _ => n | _ => 0
theorem _root_.Go.World.ownsRow.ownBlock_ge {w : World} {base : Nat} {e : TypeId} {size n : Nat} {v : Value} {xs : List Value} (h : w.ownsRow base e size v n xs) {k : Nat} (hk : v.ownBlock = some k) : base ≤ k := by
  rcases h.2 with ⟨rfl, _⟩ | ⟨g, cap, cur, rfl, hg, _⟩
  · simp [Value.ownBlock] at hk
  · have : g = k := by simpa [Value.ownBlock] using hk
    omega
theorem sliceLen_own {w : World} {base : Nat} {e : TypeId} {v : Value} {n : Nat} {xs : List Value} (h : w.ownsRow base e 1 v n xs) : ∃ a c, v = .slice a n c := by
  rcases h.2 with ⟨rfl, rfl⟩ | ⟨g, cap, cur, hv, _⟩
  · exact ⟨_, _, rfl⟩
  · exact ⟨_, _, hv⟩

theorem Tryz.infoU32 : (Tryz.prog.info? 96).map (fun i => (i.zero, i.size, i.bytes)) = some (some (.int .u32 0), 1, 4) := by kernel_rfl
theorem row8_zero (w : World) (t : TypeId) : (w.alloc (.cells #[.int .u32 0, .int .u32 0, .int .u32 0, .int .u32 0, .int .u32 0, .int .u32 0, .int .u32 0, .int .u32 0] t)).rowIs w.heap.size t 8 (fun _ => .int .u32 0) :=
  World.rowIs_alloc w _ t _ (fun i hi => by have : i < 8 := hi; match i, this with | 0, _ => rfl | 1, _ => rfl | 2, _ => rfl | 3, _ => rfl | 4, _ => rfl | 5, _ => rfl | 6, _ => rfl | 7, _ => rfl)

theorem owns_made (w : World) (e : TypeId) (n : Nat) (hn : n ≤ 4096 := by omega) : (w.alloc (.cells (madeCells #[.int .u8 0] n) e)).ownsRow w.heap.size e 1 (.slice (some ⟨w.heap.size, 0, none⟩) 0 n) 0 [] :=
  ⟨rfl, .inr ⟨w.heap.size, n, _, rfl, Nat.le_refl _, heap_alloc_new w _, Nat.zero_le _, by unfold maxLen; omega, by simp [madeCells, size_zeroCells], rfl⟩⟩
theorem idx8_32 (s : Nat → Int) : ∀ (k : Nat) (_ : k < 8) (W : World), (Instr.index 171 (.agg #[.int .u32 (s 0), .int .u32 (s 1), .int .u32 (s 2), .int .u32 (s 3), .int .u32 (s 4), .int .u32 (s 5), .int .u32 (s 6), .int .u32 (s 7)]) (.int .i64 k)).run Tryz.prog W = .ok (.int .u32 (s k)) W
  | 0, _, _ => by kernel_rfl
  | 1, _, _ => by kernel_rfl
  | 2, _, _ => by kernel_rfl
  | 3, _, _ => by kernel_rfl
  | 4, _, _ => by kernel_rfl
  | 5, _, _ => by kernel_rfl
  | 6, _, _ => by kernel_rfl
  | 7, _, _ => by kernel_rfl

end Go.Proofs.YtipehnojibdfeaaGreat
