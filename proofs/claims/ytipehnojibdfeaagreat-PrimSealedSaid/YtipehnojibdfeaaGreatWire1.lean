/- A row of bytes that begins as []byte(s): append of one byte; wire's PutNumber and PutText. -/
import Derived.Test.YtipehnojibdfeaaGreatMac1
import Derived.Lib.ConvBytes
namespace Go.Proofs.YtipehnojibdfeaaGreat
open Go Go.Proofs Go.RowKit

def BRow (w : World) (base : Nat) (e : TypeId) (v : Value) (l : List UInt8) : Prop :=
  ∃ g cap cur mk, v = .slice (some ⟨g, 0, none⟩) l.length cap ∧ base ≤ g ∧ w.heap[g]? = some (.cells cur e mk) ∧ (mk = (0, 0) ∨ mk = (cur.size, cur.size + 1)) ∧ l.length ≤ cap ∧ cur.size = cap ∧ cur.toList.take l.length = Lib.byteCells l
section
variable {w : World} {base : Nat} {e : TypeId} {v : Value} {l : List UInt8}
theorem BRow.of_bytes (w : World) (e : TypeId) (s : ByteArray) (hb : base ≤ w.heap.size) : BRow (Lib.bytesWorld w e s) base e (.slice (some ⟨w.heap.size, 0, none⟩) s.size (grownCap w s.size 0 e)) s.data.toList := by
  have hge := grownCap_ge w s.size 0 e
  have hsz : s.data.toList.length = s.size := rfl
  have hsz2 : s.data.size = s.size := rfl
  refine ⟨_, _, _, _, by rw [hsz], hb, Lib.bytesWorld_at_new w e s, .inr rfl, by rw [hsz]; exact hge, ?_, ?_⟩
  · simp only [Lib.bytesCells, Array.size_append, Array.size_map, Array.size_replicate]; omega
  · simp [Lib.bytesCells, Lib.byteCells, hsz2]
theorem run_append_one {P : Program} (w : World) (base : Nat) (t ty e : TypeId) (i : TypeInfo) (ht : P.underlying t = some (.slice e)) (hi : P.info? e = some i) (hz : i.zero = some (.int .u8 0)) (hs1 : i.size = 1) (hby : i.bytes = 1)
    (v : Value) (l : List UInt8) (hown : BRow w base e v l) (a : Addr) (c : Nat) (x : Value) (u : UInt8) (hx : x = .int .u8 u.toNat) (hc : w.cell? a = some x) (hlen : l.length + 1 ≤ 140737488355328) (hbase : base ≤ w.heap.size) :
    ∃ v' w', (Builtin.append_ #[t, t] ty #[v, .slice (some a) 1 c]).run P w = .ok v' w' ∧ BRow w' base e v' (l ++ [u]) ∧ Below base w w' := by
  obtain ⟨g, cap, cur, mk, rfl, hbg, hg, hmk, hlc, hcs, htake⟩ := hown
  have hnews : ∀ j z, [x][j]? = some z → w.cell? (a.add j) = some z := by
    intro j z hj
    match j, hj with
    | 0, hj => simp at hj; subst hj; simpa [Addr.add] using hc
  have hbc : Lib.byteCells (l ++ [u]) = Lib.byteCells l ++ [x] := by rw [hx]; simp [Lib.byteCells]
  by_cases hroom : l.length + 1 ≤ cap
  · have hf := run_firstCells_some (P := P) w i.size 1 a 1 c [x] (by simp [hs1]) hnews
    rw [hs1] at hf
    have hn : l.length < cur.size := by omega
    have hcell : w.cell? ⟨g, l.length, none⟩ = some cur[l.length] := by simp [World.cell?, hg, hn]
    have hfro : w.frozen? ⟨g, l.length, none⟩ = false := by
      rcases hmk with h | h <;> subst h <;> simp [World.frozen?, hg] ; omega
    have hst : (storeCells ⟨g, l.length, none⟩ [x]).run P w = .ok () (w.setRow g (cur.setIfInBounds l.length x)) := by
      have hadd : (⟨g, l.length, none⟩ : Addr).add 0 = ⟨g, l.length, none⟩ := by simp [Addr.add]
      simp only [storeCells, Sem.run_bind, hadd]
      rw [run_store P w _ x _ (by rw [hx]; rfl), hcell]
      simp [hfro, setCell_eq_setRow w g l.length cur e mk x hg]
    refine ⟨.slice (some ⟨g, 0, none⟩) (l.length + 1) cap, w.setRow g (cur.setIfInBounds l.length x), ?_, ⟨g, cap, _, mk, by simp, hbg, setRow_heap w g cur _ e _ hg, by simpa using hmk, by simpa using hroom, by simpa using hcs, ?_⟩, ⟨rfl, rfl, rfl, by simp, fun k hk => setRow_other w g k _ (by omega)⟩⟩
    · simp [Builtin.append_, run_underlying ht, sizeOf, typeInfo, hi, hs1, Builtin.lenOf, hroom, hf, Addr.add_lit, hst]
    · rw [hbc, ← htake]
      have e1 : (l ++ [u]).length = l.length + 1 := by simp
      rw [e1, Array.toList_setIfInBounds, List.take_add_one]
      simp [List.take_set, hn]
      exact List.set_eq_of_length_le (by simp; omega)
  · have holds : ∀ j z, (Lib.byteCells l)[j]? = some z → w.cell? ((⟨g, 0, none⟩ : Addr).add j) = some z := by
      intro j z hj
      rw [addr_add, Nat.zero_add, cell_of_row w g j cur e mk hg]
      rw [← htake, List.getElem?_take] at hj
      split at hj
      · simpa using hj
      · cases hj
    have hr := run_append_grow (P := P) w t ty e i (.int .u8 0) ht hi hz ⟨g, 0, none⟩ l.length cap (Lib.byteCells l) (by simp [Lib.byteCells, hs1]) holds a 1 c [x] (by simp [hs1]) hnews (by omega) (by omega) (growslice_fits (by omega) (by rw [hby]; omega))
    have hge := grownCap_ge w (l.length + 1) cap e
    refine ⟨_, _, hr, ⟨w.heap.size, grownCap w (l.length + 1) cap e, _, (0, 0), by simp, hbase, heap_alloc_new w.drew _, .inl rfl, by simpa using hge, ?_, ?_⟩, ⟨rfl, rfl, rfl, by simp, fun k hk => heap_alloc_old w.drew _ (show k < w.drew.heap.size by show k < w.heap.size; omega)⟩⟩
    · simp [size_zeroCells, Lib.byteCells, Value.cells]; omega
    · rw [hbc]
      have e1 : (l ++ [u]).length = (Lib.byteCells l ++ [x]).length := by simp [Lib.byteCells]
      rw [e1]
      simp only [Array.toList_append]
      exact List.take_left
theorem wpList_append_one {P : Program} {w : World} {ops : Array Oper} {rest : List Oper} {o : Oper} {a : Act} {Q : Exit → Act → World → Prop} (hgd : o.guard = none) (s x : Operand) (t : TypeId)
    (ho : o.op = .call { callee := .builtin .append, args := #[s, x], argTypes := #[t, t] })
    (base : Nat) (e : TypeId) (i : TypeInfo) (ht : P.underlying t = some (.slice e)) (hi : P.info? e = some i) (hz : i.zero = some (.int .u8 0)) (hs1 : i.size = 1) (hby : i.bytes = 1)
    (v : Value) (l : List UInt8) (hs : a.eval s = v) (hown : BRow w base e v l) (ad : Addr) (c : Nat) (y : Value) (u : UInt8) (hx : a.eval x = .slice (some ad) 1 c) (hy : y = .int .u8 u.toNat) (hc : w.cell? ad = some y) (hlen : l.length + 1 ≤ 140737488355328) (hbase : base ≤ w.heap.size)
    (h : ∀ v' w', BRow w' base e v' (l ++ [u]) → Below base w w' → wpList P ops Q rest (a.put o.dst v') w') : wpList P ops Q (o :: rest) a w :=
  wpList_plain hgd fun _ hK => by
    obtain ⟨v', w', hr, h2, h3⟩ := run_append_one (P := P) w base t o.type e i ht hi hz hs1 hby v l hown ad c y u hy hc hlen hbase
    unfold Oper.wp execOp
    simp only [ho, resolve, invoke, builtin, Sem.run_bind, Sem.run_pure, Result.andThen_ok, List.map_toArray, List.map_cons, List.map_nil, hs, hx, hr]
    exact hK _ _ (h v' w' h2 h3)
theorem BRow.below {w' : World} {B : Nat} (h : BRow w base e v l) (hb : Below B w w') (hB : w.heap.size ≤ B) : BRow w' base e v l := by
  obtain ⟨g, cap, cur, mk, hv, hbg, hg, r⟩ := h
  have hlt : g < w.heap.size := (Array.getElem?_eq_some_iff.1 hg).1
  exact ⟨g, cap, cur, mk, hv, hbg, (hb.block g (by omega)).trans hg, r⟩
theorem BRow.alloc (h : BRow w base e v l) (o : Obj) : BRow (w.alloc o) base e v l := h.below ((Below.refl _ _).alloc (Nat.le_refl _) o) (Nat.le_refl _)
theorem BRow.string (P : Program) (src dst e : TypeId) (hs : P.underlying src = some (.slice e)) (he : P.underlying e = some (.int .u8)) (hd : P.underlying dst = some .string) (h : BRow w base e v l) :
    (convert src dst v).run P w = .ok (.string ⟨l.toArray⟩) w := by
  obtain ⟨g, cap, cur, mk, rfl, hbg, hg, hmk, hlc, hcs, htake⟩ := h
  refine run_convert_bytes_back (P := P) w src dst e ⟨g, 0, none⟩ cap l hs he hd fun j hj => ?_
  rw [addr_add, Nat.zero_add, cell_of_row w g j cur e mk hg]
  have := congrArg (·[j]?) htake
  simpa [Lib.byteCells, hj] using this
end

/-- a number's bytes, the highest first -/
def numL (v : Int) : Nat → List UInt8
  | 0 => []
  | k + 1 => (v / 2 ^ (8 * k) % 256).toNat.toUInt8 :: numL v k
theorem numL_length (v : Int) (k : Nat) : (numL v k).length = k := by
  induction k with
  | zero => rfl
  | succ k ih => simp [numL, ih]
/-- the first of a number's bytes, down to the i-th -/
def numTo (v : Int) (n : Nat) : Nat → List UInt8
  | 0 => []
  | k + 1 => numTo v n k ++ [(v / 2 ^ (8 * (n - 1 - k)) % 256).toNat.toUInt8]
theorem numTo_length (v : Int) (n k : Nat) : (numTo v n k).length = k := by
  induction k with
  | zero => rfl
  | succ k ih => simp [numTo, ih]

set_option maxHeartbeats 2000000 in
set_option maxRecDepth 100000 in
theorem putNumber_any (w : World) (b : ByteArray) (n : Nat) (v : Int) (h1 : 1 ≤ n) (h8 : n ≤ 8) (hb : b.size ≤ 70368744177664) (hv0 : 0 ≤ v) (hv : v < 18446744073709551616) :
    Calls Tryz.prog 32 #[.string b, .int .i64 n, .int .u64 v] w fun e w' => e = .returned (.string ⟨(b.data.toList ++ numTo v n n).toArray⟩) ∧ Below w.heap.size w w' := by
  have kb := fun W => Lib.run_convert_string_bytes (P := Tryz.prog) W 9 30 5 b (u := .string) Tryz.underlying9 Tryz.underlying30 Tryz.underlying5
  have hR0 := BRow.of_bytes (base := w.heap.size) w 5 b (Nat.le_refl _)
  have q0 : Below w.heap.size w (Lib.bytesWorld w 5 b) := ⟨rfl, rfl, rfl, by rw [Lib.bytesWorld_size]; omega, fun i hi => Lib.bytesWorld_at_old _ _ _ i hi⟩
  have hmm : min (max (n : Int) 1) 8 - 1 = ((n - 1 : Nat) : Int) := by omega
  have hbl : b.data.toList.length = b.size := rfl
  have HB : Hid (b.data.toList.length = b.size) := hbl
  clear hbl
  obtain ⟨i0, hi, hz0, hz1, hz2⟩ := info_parts Tryz.infoByte
  go_enter Tryz.func32, Tryz.ntmps32
  go_upto_block 0 with (fail)
  clear kb hmm
  obtain ⟨cap0, hcap0⟩ : ∃ c, c = grownCap w b.size 0 5 := ⟨_, rfl⟩
  rw [← hcap0] at hR0 ⊢
  obtain ⟨w1, hw1⟩ : ∃ w1, w1 = Lib.bytesWorld w 5 b := ⟨_, rfl⟩
  rw [← hw1] at hR0 q0 ⊢
  clear hw1 hcap0
  go_wp2_with fail
  go_loopw [7, 8] (fun s i wr => ∃ k : Nat, k ≤ n ∧ i = .int .i64 ((n : Int) - 1 - (k : Int)) ∧ BRow wr w.heap.size 5 s (b.data.toList ++ numTo v n k) ∧ Below w.heap.size w wr) (fun _ i _ => ((intOf i) + 1).toNat)
  case atStart => exact ⟨0, by omega, by congr 1; omega, by simpa [numTo] using hR0, q0⟩
  case round =>
    clear hR0 q0
    obtain ⟨k, hk, rfl, hR, hb⟩ := hrel
    obtain ⟨m, hm⟩ : ∃ m : Int, m = (n : Int) - 1 - (k : Int) := ⟨_, rfl⟩
    have HM : Hid (m = (n : Int) - 1 - (k : Int)) := hm
    rw [← hm]
    have hm8 : m < 8 := by omega
    have hm1 : -1 ≤ m := by omega
    by_cases hkn : k < n
    · have hm0 : 0 ≤ m := by omega
      clear hm
      have HU : Hid (Value.int .u8 (v / 2 ^ (8 * m).toNat % 256) = .int .u8 ((v / 2 ^ (8 * (n - 1 - k)) % 256).toNat.toUInt8).toNat) := by
        show Value.int .u8 (v / 2 ^ (8 * m).toNat % 256) = .int .u8 ((v / 2 ^ (8 * (n - 1 - k)) % 256).toNat.toUInt8).toNat
        have e1 : (8 * m).toNat = 8 * (n - 1 - k) := by rw [HM.out]; omega
        rw [e1]
        have h256 : 0 ≤ v / 2 ^ (8 * (n - 1 - k)) % 256 ∧ v / 2 ^ (8 * (n - 1 - k)) % 256 < 256 := by omega
        generalize v / 2 ^ (8 * (n - 1 - k)) % 256 = z at h256
        congr 1
        simp; omega
      go_wp2_with (at_builtin; refine wpList_append_one rfl _ _ 30 rfl w.heap.size 5 i0 Tryz.underlying30 hi hz0 hz1 hz2 _ _ rfl (hR.alloc _) ⟨wr.heap.size, 0, none⟩ 1 _ _ rfl HU.out (by simp) (by rw [List.length_append, numTo_length, HB.out]; omega) (by have := hb.size; simp; omega) ?_)
      intro v' w' hR' hb'
      have hb2 : Below w.heap.size w w' := (hb.alloc hb.size _).trans hb'
      have hR2 : BRow w' w.heap.size 5 v' (b.data.toList ++ numTo v n (k + 1)) := hR'
      have hm2 : m - 1 = (n : Int) - 1 - ((k + 1 : Nat) : Int) := by rw [HM.out]; omega
      have HM2 : Hid (m - 1 = (n : Int) - 1 - ((k + 1 : Nat) : Int)) := hm2
      clear hR hR' hb hb' HU hm2
      go_wp2
      go_roundw
      case rel => exact ⟨k + 1, by omega, by rw [← HM2.out], hR2, hb2⟩
      case measure => simp [intOf]; omega
    · have hm0 : m = -1 := by omega
      subst hm0
      obtain rfl : k = n := by omega
      have hconv := hR.string Tryz.prog 30 9 5 Tryz.underlying30 Tryz.underlying5 Tryz.underlying9
      clear hm hR
      go_wp2_with fail
      go_ret
      exact ⟨rfl, hb⟩
end Go.Proofs.YtipehnojibdfeaaGreat
