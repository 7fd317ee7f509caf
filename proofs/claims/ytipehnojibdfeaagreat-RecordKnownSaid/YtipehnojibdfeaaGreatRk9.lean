/- Parts of the proof, as they were built: Aes9, Wire1, Wire2, Prim1, Prim2, Prim3, Prim4, Prim5, Prim6, Prim7. -/
import Derived.Test.YtipehnojibdfeaaGreatRk8
import Derived.Test.YtipehnojibdfeaaGreatRk7
import Derived.Test.YtipehnojibdfeaaGreatRk6
import Derived.Lib.ConvBytes
import Derived.Deep.RegionLaw

/- The contract of aes's Ctr; it is its own inverse. -/
namespace Go.Proofs.YtipehnojibdfeaaGreat
open Go Go.Proofs Go.RowKit

theorem ksB_in (c : Nat → Int) (st : List UInt8) (j : Nat) : 0 ≤ ksB c st j ∧ ksB c st j < 256 := roundsE_in _ _ _ _ (by omega)
def ctrL (c : Nat → Int) (st l : List UInt8) : List UInt8 := (List.range l.length).map fun j => (xor8 (byteAt l j) (ksB c st j)).toNat.toUInt8
theorem ctrL_length (c : Nat → Int) (st l : List UInt8) : (ctrL c st l).length = l.length := by simp [ctrL]
theorem ctrL_at (c : Nat → Int) (st l : List UInt8) (j : Nat) (hj : j < l.length) : byteAt (ctrL c st l) j = xor8 (byteAt l j) (ksB c st j) := by
  have h := xor8_in (byteAt l j) (ksB c st j)
  rw [byteAt_get _ _ (by rw [ctrL_length]; exact hj)]
  simp [ctrL]
  omega
theorem xor8_twice (a k : Int) (ha : 0 ≤ a ∧ a < 256) (hk : 0 ≤ k ∧ k < 256) : xor8 (xor8 a k) k = a := by
  obtain ⟨x, rfl⟩ : ∃ x : Nat, a = x := ⟨a.toNat, by omega⟩
  obtain ⟨y, rfl⟩ : ∃ y : Nat, k = y := ⟨k.toNat, by omega⟩
  have hx : x < 256 := by omega
  have hy : y < 256 := by omega
  have hl : x ^^^ y < 2 ^ 8 := Nat.xor_lt_two_pow (by omega) (by omega)
  unfold xor8
  rw [u8_xor x y hx hy, u8_xor _ y hl hy, Nat.xor_assoc, Nat.xor_self, Nat.xor_zero]
theorem byteAt_ext (a b : List UInt8) (hl : a.length = b.length) (h : ∀ j, j < a.length → byteAt a j = byteAt b j) : a = b := by
  apply List.ext_getElem hl
  intro i h1 h2
  have := h i h1
  rw [byteAt_get a i h1, byteAt_get b i h2] at this
  exact UInt8.toNat_inj.1 (by exact_mod_cast this)
theorem ctrL_twice (c : Nat → Int) (st l : List UInt8) : ctrL c st (ctrL c st l) = l := by
  apply byteAt_ext _ _ (by rw [ctrL_length, ctrL_length])
  intro j hj
  rw [ctrL_length, ctrL_length] at hj
  rw [ctrL_at _ _ _ _ (by rw [ctrL_length]; exact hj), ctrL_at _ _ _ _ hj]
  exact xor8_twice _ _ (byteAt_in _ _) (ksB_in _ _ _)
def ctrF (key st l : List UInt8) : List UInt8 := ctrL (keysF key) st l

set_option maxRecDepth 100000 in
set_option maxHeartbeats 2000000 in
theorem ctr_any (w : World) (key start text : ByteArray) (hk : key.size = 32) (hs : start.size = 12) (hn : text.size ≤ 1048576) :
    Calls Tryz.prog 89 #[.string key, .string start, .string text] w fun e w' => e = .returned (.tuple #[.string ⟨(ctrF key.data.toList start.data.toList text.data.toList).toArray⟩, .int .i64 0]) ∧ Below w.heap.size w w' := by
  have hkd : ((key.size : Int) != 32) = false := by rw [bne_eq_false_iff_eq]; omega
  have hsd : ((start.size : Int) != 12) = false := by rw [bne_eq_false_iff_eq]; omega
  have hnd : decide (1048576 < text.size) = false := by simp; omega
  have hnd2 : decide (1048576 < (text.size : Int)) = false := by simp; omega
  have HK : Hid (key.size = 32) := hk
  have HS : Hid (start.size = 12) := hs
  have kb := fun W => Lib.run_convert_string_bytes (P := Tryz.prog) W 9 30 5 text (u := .string) Tryz.underlying9 Tryz.underlying30 Tryz.underlying5
  clear hk hs
  go_enter Tryz.func89, Tryz.ntmps89
  go_wp2_with fail
  refine (keys_any w key HK.out).mono ?_
  rintro e w1 ⟨kB, rfl, hkB, hK, b1⟩
  have hO2 := CRow.bytes w1 5 text
  have q2 : Below w1.heap.size w1 (Lib.bytesWorld w1 5 text) := ⟨rfl, rfl, rfl, by rw [Lib.bytesWorld_size]; omega, fun i hi => Lib.bytesWorld_at_old _ _ _ i hi⟩
  have hK2 := rowIs_later hK q2
  have b2 := b1.trans (q2.mono b1.size)
  have hkl := hK.lt
  have hcap : text.size ≤ grownCap w1 text.size 0 5 := grownCap_ge _ _ _ _
  obtain ⟨cap, hcp⟩ : ∃ cap, cap = grownCap w1 text.size 0 5 := ⟨_, rfl⟩
  have kb1 := kb w1
  rw [← hcp] at kb1 hcap
  clear hcp kb hK b1 
  have hsz := Lib.bytesWorld_size w1 5 text
  obtain ⟨w2, hw2⟩ : ∃ w2, w2 = Lib.bytesWorld w1 5 text := ⟨_, rfl⟩
  rw [← hw2] at hO2 hK2 b2 kb1 hsz
  clear hw2 q2
  obtain ⟨oB, hoB⟩ : ∃ oB, oB = w1.heap.size := ⟨_, rfl⟩
  rw [← hoB] at hO2 kb1 hkl hsz
  have hob : w.heap.size ≤ oB := by have := b2.size; omega
  have hoc : oB < w2.heap.size := by omega
  clear hoB hsz
  have hcpy : (Builtin.copy_ #[30, 9] 3 #[.slice (some ⟨w2.heap.size, 0, none⟩) 16 16, .string start]).run Tryz.prog (w2.alloc (.cells #[.int .u8 0, .int .u8 0, .int .u8 0, .int .u8 0, .int .u8 0, .int .u8 0, .int .u8 0, .int .u8 0, .int .u8 0, .int .u8 0, .int .u8 0, .int .u8 0, .int .u8 0, .int .u8 0, .int .u8 0, .int .u8 0] 146)) =
      .ok (goInt start.size) ((w2.alloc (.cells #[.int .u8 0, .int .u8 0, .int .u8 0, .int .u8 0, .int .u8 0, .int .u8 0, .int .u8 0, .int .u8 0, .int .u8 0, .int .u8 0, .int .u8 0, .int .u8 0, .int .u8 0, .int .u8 0, .int .u8 0, .int .u8 0] 146)).setRow w2.heap.size (Lib.byteCells (start.data.toList ++ List.replicate (16 - start.size) 0)).toArray) := by
    have hz : (#[.int .u8 0, .int .u8 0, .int .u8 0, .int .u8 0, .int .u8 0, .int .u8 0, .int .u8 0, .int .u8 0, .int .u8 0, .int .u8 0, .int .u8 0, .int .u8 0, .int .u8 0, .int .u8 0, .int .u8 0, .int .u8 0] : Array Value) = (List.replicate 16 (.int .u8 0)).toArray := rfl
    have h := Lib.run_copy_row_string (P := Tryz.prog) (w2.alloc (.cells #[.int .u8 0, .int .u8 0, .int .u8 0, .int .u8 0, .int .u8 0, .int .u8 0, .int .u8 0, .int .u8 0, .int .u8 0, .int .u8 0, .int .u8 0, .int .u8 0, .int .u8 0, .int .u8 0, .int .u8 0, .int .u8 0] 146)) 30 9 3 5 w2.heap.size 0 16 16 start #[.int .u8 0, .int .u8 0, .int .u8 0, .int .u8 0, .int .u8 0, .int .u8 0, .int .u8 0, .int .u8 0, .int .u8 0, .int .u8 0, .int .u8 0, .int .u8 0, .int .u8 0, .int .u8 0, .int .u8 0, .int .u8 0] 146 Tryz.underlying30 byteInfoSize (heap_alloc_new w2 _) (by have := HS.out; omega) (by have := HS.out; rw [this]; simp)
    rw [h, hz, List.toList_toArray]
    have e : start.size = start.data.toList.length := rfl
    rw [e, copied 16 start.data.toList]
  have hC3 : ((w2.alloc (.cells #[.int .u8 0, .int .u8 0, .int .u8 0, .int .u8 0, .int .u8 0, .int .u8 0, .int .u8 0, .int .u8 0, .int .u8 0, .int .u8 0, .int .u8 0, .int .u8 0, .int .u8 0, .int .u8 0, .int .u8 0, .int .u8 0] 146)).setRow w2.heap.size (Lib.byteCells (start.data.toList ++ List.replicate (16 - start.size) 0)).toArray).rowIs w2.heap.size 146 16 (fun j => .int .u8 (cnt0 start.data.toList j)) := by
    have h := rowIs_bytes ((Blk.new w2 146 #[.int .u8 0, .int .u8 0, .int .u8 0, .int .u8 0, .int .u8 0, .int .u8 0, .int .u8 0, .int .u8 0, .int .u8 0, .int .u8 0, .int .u8 0, .int .u8 0, .int .u8 0, .int .u8 0, .int .u8 0, .int .u8 0]).setRow (Lib.byteCells (start.data.toList ++ List.replicate (16 - start.size) 0)).toArray)
    have e : start.data.toList.length = 12 := HS.out
    have e2 : (start.data.toList ++ List.replicate (16 - start.size) 0).length = 16 := by rw [List.length_append, e, HS.out]; simp
    rw [e2] at h
    exact h.congr (fun j hj => congrArg (Value.int .u8) (by
      unfold cnt0 byteAt
      by_cases h12 : j < 12
      · rw [if_pos h12]; simp [List.getD_eq_getElem?_getD, List.getElem?_append, e, h12]
      · rw [if_neg h12]; simp [List.getD_eq_getElem?_getD, List.getElem?_append, e, h12, List.getElem?_replicate]; split <;> simp))
  have q3 : Below w2.heap.size w2 ((w2.alloc (.cells #[.int .u8 0, .int .u8 0, .int .u8 0, .int .u8 0, .int .u8 0, .int .u8 0, .int .u8 0, .int .u8 0, .int .u8 0, .int .u8 0, .int .u8 0, .int .u8 0, .int .u8 0, .int .u8 0, .int .u8 0, .int .u8 0] 146)).setRow w2.heap.size (Lib.byteCells (start.data.toList ++ List.replicate (16 - start.size) 0)).toArray) := below_setRow' ((Below.refl _ _).alloc (Nat.le_refl _) _) (Nat.le_refl _) _
  have hO3 := hO2.later q3
  have hK3 := rowIs_later hK2 q3
  have b3 := b2.trans (q3.mono b2.size)
  clear hO2 hK2 q3
  obtain ⟨w3, hw3⟩ : ∃ w3, w3 = (w2.alloc (.cells #[.int .u8 0, .int .u8 0, .int .u8 0, .int .u8 0, .int .u8 0, .int .u8 0, .int .u8 0, .int .u8 0, .int .u8 0, .int .u8 0, .int .u8 0, .int .u8 0, .int .u8 0, .int .u8 0, .int .u8 0, .int .u8 0] 146)).setRow w2.heap.size (Lib.byteCells (start.data.toList ++ List.replicate (16 - start.size) 0)).toArray := ⟨_, rfl⟩
  rw [← hw3] at hcpy hC3 hO3 hK3 b3
  clear hw3
  have hcb : w.heap.size ≤ w2.heap.size := b2.size
  go_upto_block 1 with (fail)
  refine ctr_all _ w.heap.size kB oB w2.heap.size text.size cap hn hcap (by omega) (by omega) (by omega) hob hcb b3.size (keysF key.data.toList) start.data.toList text.data.toList rfl hK3 hC3 (hO3.congr (fun j hj => congrArg (Value.int .u8) (by unfold outF; rw [if_neg (by omega)]))) _ ?_
  intros
  rename_i w4 h4
  obtain ⟨hO4, b4⟩ := h4
  have hsz4 : (ctrF key.data.toList start.data.toList text.data.toList).length = text.size := ctrL_length _ _ _
  have hc : ∀ j (hj : j < (ctrF key.data.toList start.data.toList text.data.toList).length), w4.cell? ((⟨oB, 0, none⟩ : Addr).add j) = some (.int .u8 ((ctrF key.data.toList start.data.toList text.data.toList)[j].toNat : Int)) := by
    intro j hj
    rw [addr_add, Nat.zero_add, hO4.cell (by rw [← hsz4]; exact hj), ← byteAt_get _ _ hj]
    have hj' : j < text.data.toList.length := by rw [hsz4] at hj; exact hj
    simp only [ctrF, ctrL_at _ _ _ _ hj', outF]
    rw [if_pos (by rw [hsz4] at hj; exact hj)]
  have hconv := run_convert_bytes_back (P := Tryz.prog) w4 30 9 5 ⟨oB, 0, none⟩ cap (ctrF key.data.toList start.data.toList text.data.toList) Tryz.underlying30 Tryz.underlying5 Tryz.underlying9 hc
  rw [hsz4] at hconv
  have b5 := b3.trans b4
  clear hc hO4 b4 b3 b2 hsz4
  go_wp2
  go_ret2
  exact ⟨rfl, b5⟩
end Go.Proofs.YtipehnojibdfeaaGreat

/- A row of bytes that begins as []byte(s): append of one byte; wire's PutNumber and PutText. -/
namespace Go.Proofs.YtipehnojibdfeaaGreat
open Go Go.Proofs Go.RowKit

def BRow (w : World) (base : Nat) (e : TypeId) (v : Value) (l : List UInt8) : Prop :=
  ∃ g cap cur mk, v = .slice (some ⟨g, 0, none⟩) l.length cap ∧ base ≤ g ∧ w.heap[g]? = some (.cells cur e mk) ∧ (mk = (0, 0) ∨ mk = (cur.size, cur.size + 1)) ∧ l.length ≤ cap ∧ cur.size = cap ∧ cur.toList.take l.length = Lib.byteCells l
section
variable {w : World} {base : Nat} {e : TypeId} {v : Value} {l : List UInt8}
theorem BRow.of_bytes (w : World) (e : TypeId) (s : ByteArray) (hb : base ≤ w.heap.size) : BRow (Lib.bytesWorld w e s) base e (.slice (some ⟨w.heap.size, 0, none⟩) s.size (grownCap w s.size 0 e)) s.data.toList := by
  have hge := grownCap_ge w s.size 0 e
  have hsz : s.data.toList.length = s.size := rfl
  have hsz2 : s.data.size = s.size := rfl
  refine ⟨_, _, _, _, by rw [hsz], hb, Lib.bytesWorld_at_new w e s, .inr rfl, by rw [hsz]; exact hge, ?_, ?_⟩
  · simp only [Lib.bytesCells, Array.size_append, Array.size_map, Array.size_replicate]; omega
  · simp [Lib.bytesCells, Lib.byteCells, hsz2]
theorem run_append_one {P : Program} (w : World) (base : Nat) (t ty e : TypeId) (i : TypeInfo) (ht : P.underlying t = some (.slice e)) (hi : P.info? e = some i) (hz : i.zero = some (.int .u8 0)) (hs1 : i.size = 1) (hby : i.bytes = 1)
    (v : Value) (l : List UInt8) (hown : BRow w base e v l) (a : Addr) (c : Nat) (x : Value) (u : UInt8) (hx : x = .int .u8 u.toNat) (hc : w.cell? a = some x) (hlen : l.length + 1 ≤ 140737488355328) (hbase : base ≤ w.heap.size) :
    ∃ v' w', (Builtin.append_ #[t, t] ty #[v, .slice (some a) 1 c]).run P w = .ok v' w' ∧ BRow w' base e v' (l ++ [u]) ∧ Below base w w' := by
  obtain ⟨g, cap, cur, mk, rfl, hbg, hg, hmk, hlc, hcs, htake⟩ := hown
  have hnews : ∀ j z, [x][j]? = some z → w.cell? (a.add j) = some z := by
    intro j z hj
    match j, hj with
    | 0, hj => simp at hj; subst hj; simpa [Addr.add] using hc
  have hbc : Lib.byteCells (l ++ [u]) = Lib.byteCells l ++ [x] := by rw [hx]; simp [Lib.byteCells]
  by_cases hroom : l.length + 1 ≤ cap
  · have hf := run_firstCells_some (P := P) w i.size 1 a 1 c [x] (by simp [hs1]) hnews
    rw [hs1] at hf
    have hn : l.length < cur.size := by omega
    have hcell : w.cell? ⟨g, l.length, none⟩ = some cur[l.length] := by simp [World.cell?, hg, hn]
    have hfro : w.frozen? ⟨g, l.length, none⟩ = false := by
      rcases hmk with h | h <;> subst h <;> simp [World.frozen?, hg] ; omega
    have hst : (storeCells ⟨g, l.length, none⟩ [x]).run P w = .ok () (w.setRow g (cur.setIfInBounds l.length x)) := by
      have hadd : (⟨g, l.length, none⟩ : Addr).add 0 = ⟨g, l.length, none⟩ := by simp [Addr.add]
      simp only [storeCells, Sem.run_bind, hadd]
      rw [run_store P w _ x _ (by rw [hx]; rfl), hcell]
      simp [hfro, setCell_eq_setRow w g l.length cur e mk x hg]
    refine ⟨.slice (some ⟨g, 0, none⟩) (l.length + 1) cap, w.setRow g (cur.setIfInBounds l.length x), ?_, ⟨g, cap, _, mk, by simp, hbg, setRow_heap w g cur _ e _ hg, by simpa using hmk, by simpa using hroom, by simpa using hcs, ?_⟩, ⟨rfl, rfl, rfl, by simp, fun k hk => setRow_other w g k _ (by omega)⟩⟩
    · simp [Builtin.append_, run_underlying ht, sizeOf, typeInfo, hi, hs1, Builtin.lenOf, hroom, hf, Addr.add_lit, hst]
    · rw [hbc, ← htake]
      have e1 : (l ++ [u]).length = l.length + 1 := by simp
      rw [e1, Array.toList_setIfInBounds, List.take_add_one]
      simp [List.take_set, hn]
      exact List.set_eq_of_length_le (by simp; omega)
  · have holds : ∀ j z, (Lib.byteCells l)[j]? = some z → w.cell? ((⟨g, 0, none⟩ : Addr).add j) = some z := by
      intro j z hj
      rw [addr_add, Nat.zero_add, cell_of_row w g j cur e mk hg]
      rw [← htake, List.getElem?_take] at hj
      split at hj
      · simpa using hj
      · cases hj
    have hr := run_append_grow (P := P) w t ty e i (.int .u8 0) ht hi hz ⟨g, 0, none⟩ l.length cap (Lib.byteCells l) (by simp [Lib.byteCells, hs1]) holds a 1 c [x] (by simp [hs1]) hnews (by omega) (by omega) (growslice_fits (by omega) (by rw [hby]; omega))
    have hge := grownCap_ge w (l.length + 1) cap e
    refine ⟨_, _, hr, ⟨w.heap.size, grownCap w (l.length + 1) cap e, _, (0, 0), by simp, hbase, heap_alloc_new w.drew _, .inl rfl, by simpa using hge, ?_, ?_⟩, ⟨rfl, rfl, rfl, by simp, fun k hk => heap_alloc_old w.drew _ (show k < w.drew.heap.size by show k < w.heap.size; omega)⟩⟩
    · simp [size_zeroCells, Lib.byteCells, Value.cells]; omega
    · rw [hbc]
      have e1 : (l ++ [u]).length = (Lib.byteCells l ++ [x]).length := by simp [Lib.byteCells]
      rw [e1]
      simp only [Array.toList_append]
      exact List.take_left
theorem wpList_append_one {P : Program} {w : World} {ops : Array Oper} {rest : List Oper} {o : Oper} {a : Act} {Q : Exit → Act → World → Prop} (hgd : o.guard = none) (s x : Operand) (t : TypeId)
    (ho : o.op = .call { callee := .builtin .append, args := #[s, x], argTypes := #[t, t] })
    (base : Nat) (e : TypeId) (i : TypeInfo) (ht : P.underlying t = some (.slice e)) (hi : P.info? e = some i) (hz : i.zero = some (.int .u8 0)) (hs1 : i.size = 1) (hby : i.bytes = 1)
    (v : Value) (l : List UInt8) (hs : a.eval s = v) (hown : BRow w base e v l) (ad : Addr) (c : Nat) (y : Value) (u : UInt8) (hx : a.eval x = .slice (some ad) 1 c) (hy : y = .int .u8 u.toNat) (hc : w.cell? ad = some y) (hlen : l.length + 1 ≤ 140737488355328) (hbase : base ≤ w.heap.size)
    (h : ∀ v' w', BRow w' base e v' (l ++ [u]) → Below base w w' → wpList P ops Q rest (a.put o.dst v') w') : wpList P ops Q (o :: rest) a w :=
  wpList_plain hgd fun _ hK => by
    obtain ⟨v', w', hr, h2, h3⟩ := run_append_one (P := P) w base t o.type e i ht hi hz hs1 hby v l hown ad c y u hy hc hlen hbase
    unfold Oper.wp execOp
    simp only [ho, resolve, invoke, builtin, Sem.run_bind, Sem.run_pure, Result.andThen_ok, List.map_toArray, List.map_cons, List.map_nil, hs, hx, hr]
    exact hK _ _ (h v' w' h2 h3)
theorem BRow.below {w' : World} {B : Nat} (h : BRow w base e v l) (hb : Below B w w') (hB : w.heap.size ≤ B) : BRow w' base e v l := by
  obtain ⟨g, cap, cur, mk, hv, hbg, hg, r⟩ := h
  have hlt : g < w.heap.size := (Array.getElem?_eq_some_iff.1 hg).1
  exact ⟨g, cap, cur, mk, hv, hbg, (hb.block g (by omega)).trans hg, r⟩
theorem BRow.alloc (h : BRow w base e v l) (o : Obj) : BRow (w.alloc o) base e v l := h.below ((Below.refl _ _).alloc (Nat.le_refl _) o) (Nat.le_refl _)
theorem BRow.string (P : Program) (src dst e : TypeId) (hs : P.underlying src = some (.slice e)) (he : P.underlying e = some (.int .u8)) (hd : P.underlying dst = some .string) (h : BRow w base e v l) :
    (convert src dst v).run P w = .ok (.string ⟨l.toArray⟩) w := by
  obtain ⟨g, cap, cur, mk, rfl, hbg, hg, hmk, hlc, hcs, htake⟩ := h
  refine run_convert_bytes_back (P := P) w src dst e ⟨g, 0, none⟩ cap l hs he hd fun j hj => ?_
  rw [addr_add, Nat.zero_add, cell_of_row w g j cur e mk hg]
  have := congrArg (·[j]?) htake
  simpa [Lib.byteCells, hj] using this
end

/-- a number's bytes, the highest first -/
def numL (v : Int) : Nat → List UInt8
  | 0 => []
  | k + 1 => (v / 2 ^ (8 * k) % 256).toNat.toUInt8 :: numL v k
theorem numL_length (v : Int) (k : Nat) : (numL v k).length = k := by
  induction k with
  | zero => rfl
  | succ k ih => simp [numL, ih]
/-- the first of a number's bytes, down to the i-th -/
def numTo (v : Int) (n : Nat) : Nat → List UInt8
  | 0 => []
  | k + 1 => numTo v n k ++ [(v / 2 ^ (8 * (n - 1 - k)) % 256).toNat.toUInt8]
theorem numTo_length (v : Int) (n k : Nat) : (numTo v n k).length = k := by
  induction k with
  | zero => rfl
  | succ k ih => simp [numTo, ih]

set_option maxHeartbeats 2000000 in
set_option maxRecDepth 100000 in
theorem putNumber_any (w : World) (b : ByteArray) (n : Nat) (v : Int) (h1 : 1 ≤ n) (h8 : n ≤ 8) (hb : b.size ≤ 70368744177664) (hv0 : 0 ≤ v) (hv : v < 18446744073709551616) :
    Calls Tryz.prog 32 #[.string b, .int .i64 n, .int .u64 v] w fun e w' => e = .returned (.string ⟨(b.data.toList ++ numTo v n n).toArray⟩) ∧ Below w.heap.size w w' := by
  have kb := fun W => Lib.run_convert_string_bytes (P := Tryz.prog) W 9 30 5 b (u := .string) Tryz.underlying9 Tryz.underlying30 Tryz.underlying5
  have hR0 := BRow.of_bytes (base := w.heap.size) w 5 b (Nat.le_refl _)
  have q0 : Below w.heap.size w (Lib.bytesWorld w 5 b) := ⟨rfl, rfl, rfl, by rw [Lib.bytesWorld_size]; omega, fun i hi => Lib.bytesWorld_at_old _ _ _ i hi⟩
  have hmm : min (max (n : Int) 1) 8 - 1 = ((n - 1 : Nat) : Int) := by omega
  have hbl : b.data.toList.length = b.size := rfl
  have HB : Hid (b.data.toList.length = b.size) := hbl
  clear hbl
  obtain ⟨i0, hi, hz0, hz1, hz2⟩ := info_parts Tryz.infoByte
  go_enter Tryz.func32, Tryz.ntmps32
  go_upto_block 0 with (fail)
  clear kb hmm
  obtain ⟨cap0, hcap0⟩ : ∃ c, c = grownCap w b.size 0 5 := ⟨_, rfl⟩
  rw [← hcap0] at hR0 ⊢
  obtain ⟨w1, hw1⟩ : ∃ w1, w1 = Lib.bytesWorld w 5 b := ⟨_, rfl⟩
  rw [← hw1] at hR0 q0 ⊢
  clear hw1 hcap0
  go_wp2_with fail
  go_loopw [7, 8] (fun s i wr => ∃ k : Nat, k ≤ n ∧ i = .int .i64 ((n : Int) - 1 - (k : Int)) ∧ BRow wr w.heap.size 5 s (b.data.toList ++ numTo v n k) ∧ Below w.heap.size w wr) (fun _ i _ => ((intOf i) + 1).toNat)
  case atStart => exact ⟨0, by omega, by congr 1; omega, by simpa [numTo] using hR0, q0⟩
  case round =>
    clear hR0 q0
    obtain ⟨k, hk, rfl, hR, hb⟩ := hrel
    obtain ⟨m, hm⟩ : ∃ m : Int, m = (n : Int) - 1 - (k : Int) := ⟨_, rfl⟩
    have HM : Hid (m = (n : Int) - 1 - (k : Int)) := hm
    rw [← hm]
    have hm8 : m < 8 := by omega
    have hm1 : -1 ≤ m := by omega
    by_cases hkn : k < n
    · have hm0 : 0 ≤ m := by omega
      clear hm
      have HU : Hid (Value.int .u8 (v / 2 ^ (8 * m).toNat % 256) = .int .u8 ((v / 2 ^ (8 * (n - 1 - k)) % 256).toNat.toUInt8).toNat) := by
        show Value.int .u8 (v / 2 ^ (8 * m).toNat % 256) = .int .u8 ((v / 2 ^ (8 * (n - 1 - k)) % 256).toNat.toUInt8).toNat
        have e1 : (8 * m).toNat = 8 * (n - 1 - k) := by rw [HM.out]; omega
        rw [e1]
        have h256 : 0 ≤ v / 2 ^ (8 * (n - 1 - k)) % 256 ∧ v / 2 ^ (8 * (n - 1 - k)) % 256 < 256 := by omega
        generalize v / 2 ^ (8 * (n - 1 - k)) % 256 = z at h256
        congr 1
        simp; omega
      go_wp2_with (at_builtin; refine wpList_append_one rfl _ _ 30 rfl w.heap.size 5 i0 Tryz.underlying30 hi hz0 hz1 hz2 _ _ rfl (hR.alloc _) ⟨wr.heap.size, 0, none⟩ 1 _ _ rfl HU.out (by simp) (by rw [List.length_append, numTo_length, HB.out]; omega) (by have := hb.size; simp; omega) ?_)
      intro v' w' hR' hb'
      have hb2 : Below w.heap.size w w' := (hb.alloc hb.size _).trans hb'
      have hR2 : BRow w' w.heap.size 5 v' (b.data.toList ++ numTo v n (k + 1)) := hR'
      have hm2 : m - 1 = (n : Int) - 1 - ((k + 1 : Nat) : Int) := by rw [HM.out]; omega
      have HM2 : Hid (m - 1 = (n : Int) - 1 - ((k + 1 : Nat) : Int)) := hm2
      clear hR hR' hb hb' HU hm2
      go_wp2
      go_roundw
      case rel => exact ⟨k + 1, by omega, by rw [← HM2.out], hR2, hb2⟩
      case measure => simp [intOf]; omega
    · have hm0 : m = -1 := by omega
      subst hm0
      obtain rfl : k = n := by omega
      have hconv := hR.string Tryz.prog 30 9 5 Tryz.underlying30 Tryz.underlying5 Tryz.underlying9
      clear hm hR
      go_wp2_with fail
      go_ret
      exact ⟨rfl, hb⟩
end Go.Proofs.YtipehnojibdfeaaGreat

/- wire's PutText. -/
namespace Go.Proofs.YtipehnojibdfeaaGreat
open Go Go.Proofs Go.RowKit

/-- a text, laid behind others -/
def putL (l s : List UInt8) : List UInt8 := l ++ numTo (s.length : Int) 4 4 ++ s
theorem putL_length (l s : List UInt8) : (putL l s).length = l.length + 4 + s.length := by simp [putL, numTo_length]; omega

set_option maxHeartbeats 2000000 in
theorem putText_any (w : World) (b s : ByteArray) (hb : b.size ≤ 70368744177664) (hs : s.size ≤ 70368744177664) :
    Calls Tryz.prog 88 #[.string b, .string s] w fun e w' => e = .returned (.string ⟨(putL b.data.toList s.data.toList).toArray⟩) ∧ Below w.heap.size w w' := by
  have hp := fun W => putNumber_any W b 4 s.size (by omega) (by omega) hb (by omega) (by omega)
  have HP : Hid (∀ W, Calls Tryz.prog 32 #[.string b, .int .i64 ((4 : Nat) : Int), .int .u64 s.size] W fun e w' => e = .returned (.string ⟨(b.data.toList ++ numTo s.size 4 4).toArray⟩) ∧ Below W.heap.size W w') := hp
  have hl : (⟨(b.data.toList ++ numTo s.size 4 4).toArray⟩ : ByteArray).size = b.size + 4 := by
    show (b.data.toList ++ numTo s.size 4 4).toArray.size = b.size + 4
    simp [numTo_length]
  obtain ⟨t, ht⟩ : ∃ t : ByteArray, t = ⟨(b.data.toList ++ numTo s.size 4 4).toArray⟩ := ⟨_, rfl⟩
  rw [← ht] at hl HP
  have hl2 : t.size ≤ b.size + 4 := by omega
  have HT : Hid (t = ⟨(b.data.toList ++ numTo s.size 4 4).toArray⟩) := ht
  have hadd := fun W => run_string_add_sum (P := Tryz.prog) W t s (by omega)
  clear hp hl ht
  go_enter Tryz.func88, Tryz.ntmps88
  go_wp2_with fail
  refine (HP.out w).mono ?_
  rintro e w1 ⟨rfl, b1⟩
  clear HP
  go_wp2
  go_ret
  refine ⟨?_, b1⟩
  rw [HT.out]
  congr 2
end Go.Proofs.YtipehnojibdfeaaGreat

/- prim's helpers of the real kind: two, tag, turned. -/
namespace Go.Proofs.YtipehnojibdfeaaGreat
open Go Go.Proofs Go.RowKit

def bs (l : List UInt8) : ByteArray := ⟨l.toArray⟩
theorem bs_size (l : List UInt8) : (bs l).size = l.length := by show l.toArray.size = _; simp
theorem bs_list (l : List UInt8) : (bs l).data.toList = l := rfl
theorem bs_of (s : ByteArray) : bs s.data.toList = s := rfl
def twoF (F K : Nat → Int) (key : List UInt8) : List UInt8 := expandF F K (hmacF F K [] key) [115, 101, 97, 108] 64
def firstF (F K : Nat → Int) (key : List UInt8) : List UInt8 := (twoF F K key).take 32
def secondF (F K : Nat → Int) (key : List UInt8) : List UInt8 := (twoF F K key).drop 32
theorem twoF_length (F K : Nat → Int) (key : List UInt8) : (twoF F K key).length = 64 := expandF_length _ _ _ _ _
theorem firstF_length (F K : Nat → Int) (key : List UInt8) : (firstF F K key).length = 32 := by simp [firstF, twoF_length]
theorem secondF_length (F K : Nat → Int) (key : List UInt8) : (secondF F K key).length = 32 := by simp [secondF, twoF_length]
theorem bs_take (l : List UInt8) (n : Nat) : (bs l).extract 0 n = bs (l.take n) := extract_take l n
theorem bs_drop (l : List UInt8) (n : Nat) (m : Nat) (hm : m = l.length) : (bs l).extract n m = bs (l.drop n) := by
  subst hm
  apply ByteArray.ext
  apply Array.ext'
  simp [bs]
  exact List.take_of_length_le (by simp)

set_option maxHeartbeats 2000000 in
theorem two_any (w : World) (key : ByteArray) (hk : key.size ≤ 100000000000000) (F K : Nat → Int) (hT : Tabs w F K) :
    Calls Tryz.prog 72 #[.string key] w fun e w' => e = .returned (.tuple #[.string (bs (firstF F K key.data.toList)), .string (bs (secondF F K key.data.toList))]) ∧ Below w.heap.size w w' := by
  have h1 := extract_any w ⟨#[]⟩ key (by show (0 : Nat) ≤ _; omega) hk F K hT
  obtain ⟨t, ht⟩ : ∃ t : ByteArray, t = ⟨(hmacF F K [] key.data.toList).toArray⟩ := ⟨_, rfl⟩
  have h1' : Calls Tryz.prog 86 #[.string ⟨#[]⟩, .string key] w fun e w' => e = .returned (.string t) ∧ Below w.heap.size w w' := by rw [ht]; exact h1
  have htl : t.size = 32 := by rw [ht]; show (hmacF F K [] key.data.toList).toArray.size = 32; simp [hmacF_length]
  have htd : t.data.toList = hmacF F K [] key.data.toList := by rw [ht]
  have HTD : Hid (t.data.toList = hmacF F K [] key.data.toList) := htd
  have HTL : Hid (t.size = 32) := htl
  clear h1 ht htl htd
  go_enter Tryz.func72, Tryz.ntmps72
  go_wp2_with fail
  refine h1'.mono ?_
  rintro e w1 ⟨rfl, b1⟩
  go_wp2_with fail
  have h2 := expand_any w1 t ⟨#[115, 101, 97, 108]⟩ 64 (by have := HTL.out; omega) (by show (4 : Nat) ≤ _; omega) (by omega) F K (hT.later b1)
  have h2' : Calls Tryz.prog 85 #[.string t, .string ⟨#[115, 101, 97, 108]⟩, .int .i64 64] w1 fun e w' => e = .returned (.tuple #[.string (bs (twoF F K key.data.toList)), .int .i64 0]) ∧ Below w1.heap.size w1 w' := by
    rw [HTD.out] at h2
    exact h2
  clear h2
  refine h2'.mono ?_
  rintro e w2 ⟨rfl, b2⟩
  have b3 := b1.trans (b2.mono b1.size)
  clear h1' h2' b1 b2 HTD HTL
  have hl : (bs (twoF F K key.data.toList)).size = 64 := by rw [bs_size, twoF_length]
  obtain ⟨u, hu⟩ : ∃ u : ByteArray, u = bs (twoF F K key.data.toList) := ⟨_, rfl⟩
  rw [← hu] at hl ⊢
  have HU : Hid (u = bs (twoF F K key.data.toList)) := hu
  clear hu
  go_wp2_with fail
  go_quiet (fail)
  go_wp2_with fail
  go_ret2
  refine ⟨?_, ⟨b3.os, b3.tape, b3.output, b3.size, b3.block⟩⟩
  show Ending.returned (.tuple #[.string (u.extract 0 32), .string (u.extract 32 64)]) = _
  rw [HU.out, bs_take, bs_drop _ _ _ (twoF_length _ _ _).symm, firstF, secondF]

set_option maxHeartbeats 2000000 in
theorem tag_any (w : World) (second ad nonce c : ByteArray) (hs : second.size = 32) (h1 : ad.size ≤ 1000000000) (h2 : nonce.size ≤ 1000000000) (h3 : c.size ≤ 1000000000) (F K : Nat → Int) (hT : Tabs w F K) :
    Calls Tryz.prog 73 #[.string second, .string ad, .string nonce, .string c] w fun e w' => e = .returned (.string (bs (hmacF F K second.data.toList (putL [] ad.data.toList ++ putL [] nonce.data.toList ++ c.data.toList)))) ∧ Below w.heap.size w w' := by
  go_enter Tryz.func73, Tryz.ntmps73
  go_wp2_with fail
  refine (putText_any w ⟨#[]⟩ ad (by show (0 : Nat) ≤ _; omega) (by omega)).mono ?_
  rintro e w1 ⟨rfl, b1⟩
  go_wp2_with fail
  refine (putText_any w1 ⟨#[]⟩ nonce (by show (0 : Nat) ≤ _; omega) (by omega)).mono ?_
  rintro e w2 ⟨rfl, b2⟩
  have b3 := b1.trans (b2.mono b1.size)
  have hT3 := hT.later b3
  clear b1 b2 hT
  go_wp2_with fail
  have hcat : catS [bs (putL [] ad.data.toList), bs (putL [] nonce.data.toList), c] = putL [] ad.data.toList ++ putL [] nonce.data.toList ++ c.data.toList := by simp [catS, bs]
  have hl1 : ad.data.toList.length = ad.size := rfl
  have hl2 : nonce.data.toList.length = nonce.size := rfl
  have hl3 : c.data.toList.length = c.size := rfl
  have hm := hmac_any (w2.alloc (.cells #[.string (bs (putL [] ad.data.toList)), .string (bs (putL [] nonce.data.toList)), .string c] 9)) second [bs (putL [] ad.data.toList), bs (putL [] nonce.data.toList), c] (some ⟨w2.heap.size, 0, none⟩) 3 3 (by omega) (reads_three w2 _ _ _ _) (by omega) (by rw [hcat]; simp [putL_length]; omega) (by omega) F K (hT3.later ((Below.refl _ _).alloc (Nat.le_refl _) _))
  rw [hcat] at hm
  refine hm.mono ?_
  rintro e w4 ⟨rfl, b4⟩
  have b5 : Below w.heap.size w w4 := (b3.alloc b3.size _).trans (b4.mono (by have := b3.size; simp; omega))
  clear hm hcat b3 b4 hT3
  go_wp2
  go_ret
  exact ⟨congrArg (fun l => Ending.returned (.string (bs (hmacF F K second.data.toList l)))) (List.append_assoc _ _ _).symm, b5⟩

set_option maxHeartbeats 2000000 in
theorem turned_any (w : World) (first second nonce text : ByteArray) (hf : first.size = 32) (hs : second.size = 32) (h1 : nonce.size ≤ 1000000000) (h2 : text.size ≤ 1048576) (F K : Nat → Int) (hT : Tabs w F K) :
    Calls Tryz.prog 74 #[.string first, .string second, .string nonce, .string text] w fun e w' => e = .returned (.tuple #[.string (bs (ctrF first.data.toList ((hmacF F K second.data.toList ([110, 111, 110, 99, 101] ++ nonce.data.toList)).take 12) text.data.toList)), .int .i64 0]) ∧ Below w.heap.size w w' := by
  have hcat : catS [⟨#[110, 111, 110, 99, 101]⟩, nonce] = [110, 111, 110, 99, 101] ++ nonce.data.toList := by simp [catS]
  have hl2 : nonce.data.toList.length = nonce.size := rfl
  have hm := hmac_any (w.alloc (.cells #[.string ⟨#[110, 111, 110, 99, 101]⟩, .string nonce] 9)) second [⟨#[110, 111, 110, 99, 101]⟩, nonce] (some ⟨w.heap.size, 0, none⟩) 2 2 (by omega) (reads_two w _ _ _) (by omega) (by rw [hcat]; simp; omega) (by omega) F K (hT.later ((Below.refl _ _).alloc (Nat.le_refl _) _))
  rw [hcat] at hm
  obtain ⟨t, ht⟩ : ∃ t : ByteArray, t = ⟨(hmacF F K second.data.toList ([110, 111, 110, 99, 101] ++ nonce.data.toList)).toArray⟩ := ⟨_, rfl⟩
  rw [← ht] at hm
  have htl : t.size = 32 := by rw [ht]; show (hmacF F K second.data.toList ([110, 111, 110, 99, 101] ++ nonce.data.toList)).toArray.size = 32; simp [hmacF_length]
  have HM : Hid (Calls Tryz.prog 87 #[.string second, .slice (some ⟨w.heap.size, 0, none⟩) 2 2] (w.alloc (.cells #[.string ⟨#[110, 111, 110, 99, 101]⟩, .string nonce] 9)) fun e w' => e = .returned (.string t) ∧ Below (w.alloc (.cells #[.string ⟨#[110, 111, 110, 99, 101]⟩, .string nonce] 9)).heap.size (w.alloc (.cells #[.string ⟨#[110, 111, 110, 99, 101]⟩, .string nonce] 9)) w') := hm
  have HF : Hid (first.size = 32) := hf
  have HT : Hid (t = ⟨(hmacF F K second.data.toList ([110, 111, 110, 99, 101] ++ nonce.data.toList)).toArray⟩) := ht
  clear hm hcat hl2 ht hT hf hs h1
  go_enter Tryz.func74, Tryz.ntmps74
  go_wp2_with fail
  refine HM.out.mono ?_
  rintro e w1 ⟨rfl, b1⟩
  have b2 : Below w.heap.size w w1 := ((Below.refl _ _).alloc (Nat.le_refl _) _).trans (b1.mono (by simp))
  clear HM b1
  go_wp2_with fail
  have hts : (t.extract 0 12).size = 12 := by rw [ByteArray.size_extract]; omega
  refine (ctr_any w1 first (t.extract 0 12) text HF.out hts h2).mono ?_
  rintro e w2 ⟨rfl, b3⟩
  have b4 := b2.trans (b3.mono b2.size)
  have e1 : (t.extract 0 12).data.toList = (hmacF F K second.data.toList ([110, 111, 110, 99, 101] ++ nonce.data.toList)).take 12 := by rw [HT.out, extract_take]
  rw [e1]
  clear hts htl HT HF b2 b3 e1
  go_wp2
  go_ret2
  exact ⟨rfl, b4⟩
end Go.Proofs.YtipehnojibdfeaaGreat

/- prim's seal and open of the real kind. -/
namespace Go.Proofs.YtipehnojibdfeaaGreat
open Go Go.Proofs Go.RowKit

def tagF (F K : Nat → Int) (key ad nonce c : List UInt8) : List UInt8 := hmacF F K (secondF F K key) (putL [] ad ++ putL [] nonce ++ c)
def turnF (F K : Nat → Int) (key nonce text : List UInt8) : List UInt8 := ctrF (firstF F K key) ((hmacF F K (secondF F K key) ([110, 111, 110, 99, 101] ++ nonce)).take 12) text
def sealF (F K : Nat → Int) (key nonce ad text : List UInt8) : List UInt8 := turnF F K key nonce text ++ tagF F K key ad nonce (turnF F K key nonce text)
theorem turnF_length (F K : Nat → Int) (key nonce text : List UInt8) : (turnF F K key nonce text).length = text.length := ctrL_length _ _ _
theorem tagF_length (F K : Nat → Int) (key ad nonce c : List UInt8) : (tagF F K key ad nonce c).length = 32 := hmacF_length _ _ _ _
theorem sealF_length (F K : Nat → Int) (key nonce ad text : List UInt8) : (sealF F K key nonce ad text).length = text.length + 32 := by simp [sealF, turnF_length, tagF_length]
theorem turnF_twice (F K : Nat → Int) (key nonce text : List UInt8) : turnF F K key nonce (turnF F K key nonce text) = text := ctrL_twice _ _ _
theorem bs_append (a b : List UInt8) : bs a ++ bs b = bs (a ++ b) := by
  apply ByteArray.ext
  apply Array.ext'
  simp [bs]

set_option maxHeartbeats 2000000 in
theorem plainSeal_any (w : World) (key nonce ad text : ByteArray) (hk : key.size = 32) (h1 : nonce.size ≤ 1000000000) (h2 : ad.size ≤ 1000000000) (h3 : text.size ≤ 1048576) (F K : Nat → Int) (hT : Tabs w F K) :
    Calls Tryz.prog 64 #[.agg #[], .string key, .string nonce, .string ad, .string text] w fun e w' => e = .returned (.tuple #[.string (bs (sealF F K key.data.toList nonce.data.toList ad.data.toList text.data.toList)), .int .i64 0]) ∧ Below w.heap.size w w' := by
  have hkd : ((key.size : Int) != 32) = false := by rw [bne_eq_false_iff_eq]; omega
  have HK : Hid (key.size = 32) := hk
  clear hk
  go_enter Tryz.func64, Tryz.ntmps64
  go_wp2_with fail
  have b0 : Below w.heap.size w (w.alloc (.cells #[] 75)) := (Below.refl _ _).alloc (Nat.le_refl _) _
  have hT0 := hT.later b0
  refine (two_any (w.alloc (.cells #[] 75)) key (by have := HK.out; omega) F K hT0).mono ?_
  rintro e w1 ⟨rfl, c1⟩
  have b1 := b0.trans (c1.mono (by simp))
  have hT1 := hT.later b1
  clear hT0 b0 c1
  obtain ⟨k1, hk1⟩ : ∃ k1, k1 = bs (firstF F K key.data.toList) := ⟨_, rfl⟩
  obtain ⟨k2, hk2⟩ : ∃ k2, k2 = bs (secondF F K key.data.toList) := ⟨_, rfl⟩
  have hl1 : k1.size = 32 := by rw [hk1, bs_size, firstF_length]
  have hl2 : k2.size = 32 := by rw [hk2, bs_size, secondF_length]
  have hd1 : k1.data.toList = firstF F K key.data.toList := by rw [hk1, bs_list]
  have hd2 : k2.data.toList = secondF F K key.data.toList := by rw [hk2, bs_list]
  rw [← hk1, ← hk2]
  clear hk1 hk2
  have ht := turned_any w1 k1 k2 nonce text hl1 hl2 h1 h3 F K hT1
  rw [hd1, hd2] at ht
  have ht' : Calls Tryz.prog 74 #[.string k1, .string k2, .string nonce, .string text] w1 fun e w' => e = .returned (.tuple #[.string (bs (turnF F K key.data.toList nonce.data.toList text.data.toList)), .int .i64 0]) ∧ Below w1.heap.size w1 w' := ht
  have HD : Hid (k2.data.toList = secondF F K key.data.toList ∧ k2.size = 32) := ⟨hd2, hl2⟩
  clear ht hd1 hd2 hl1 hl2 hT1
  go_wp2_with fail
  refine ht'.mono ?_
  rintro e w2 ⟨rfl, c2⟩
  have b2 := b1.trans (c2.mono b1.size)
  have hT2 := hT.later b2
  clear ht' b1 c2
  obtain ⟨c, hc⟩ : ∃ c, c = bs (turnF F K key.data.toList nonce.data.toList text.data.toList) := ⟨_, rfl⟩
  have hcl : c.size = text.size := by rw [hc, bs_size, turnF_length]; rfl
  have hcd : c.data.toList = turnF F K key.data.toList nonce.data.toList text.data.toList := by rw [hc, bs_list]
  rw [← hc]
  have ht := tag_any w2 k2 ad nonce c HD.out.2 h2 h1 (by omega) F K hT2
  rw [HD.out.1, hcd] at ht
  have ht' : Calls Tryz.prog 73 #[.string k2, .string ad, .string nonce, .string c] w2 fun e w' => e = .returned (.string (bs (tagF F K key.data.toList ad.data.toList nonce.data.toList (turnF F K key.data.toList nonce.data.toList text.data.toList)))) ∧ Below w2.heap.size w2 w' := ht
  obtain ⟨tg, htg⟩ : ∃ tg, tg = bs (tagF F K key.data.toList ad.data.toList nonce.data.toList (turnF F K key.data.toList nonce.data.toList text.data.toList)) := ⟨_, rfl⟩
  rw [← htg] at ht'
  have htl : tg.size = 32 := by rw [htg, bs_size, tagF_length]
  have hadd := fun W => run_string_add_sum (P := Tryz.prog) W c tg (by omega)
  have HS : Hid (c ++ tg = bs (sealF F K key.data.toList nonce.data.toList ad.data.toList text.data.toList)) := by rw [hc, htg, bs_append]; rfl
  have hle : c.size ≤ 1048576 := by omega
  clear ht hc hcd htg HD hcl
  go_wp2_with fail
  refine ht'.mono ?_
  rintro e w3 ⟨rfl, c3⟩
  have b3 := b2.trans (c3.mono b2.size)
  clear ht' b2 c3
  go_wp2
  go_ret2
  refine ⟨?_, b3⟩
  rw [← HS.out]
  rfl
end Go.Proofs.YtipehnojibdfeaaGreat

/- prim's open of the real kind. -/
namespace Go.Proofs.YtipehnojibdfeaaGreat
open Go Go.Proofs Go.RowKit

/-- too short, or too long -/
theorem plainOpen_bad (w : World) (key nonce ad sealed : ByteArray) (hk : key.size = 32) (hs : sealed.size < 32 ∨ 16416 < sealed.size) (hs2 : sealed.size ≤ 1000000000) :
    Calls Tryz.prog 62 #[.agg #[], .string key, .string nonce, .string ad, .string sealed] w fun e w' => e = .returned (.tuple #[.string ⟨#[]⟩, .int .i64 10]) ∧ Below w.heap.size w w' := by
  have hkd : ((key.size : Int) != 32) = false := by rw [bne_eq_false_iff_eq]; omega
  clear hk
  have b0 : Below w.heap.size w (w.alloc (.cells #[] 75)) := (Below.refl _ _).alloc (Nat.le_refl _) _
  by_cases h : sealed.size < 32
  · have hd1 : decide ((sealed.size : Int) - 32 < 0) = true := by simp; omega
    go_enter Tryz.func62, Tryz.ntmps62
    go_wp2_with fail
    go_ret2
    exact ⟨rfl, b0⟩
  · have hd1 : decide ((sealed.size : Int) - 32 < 0) = false := by simp; omega
    have hd2 : decide (16384 < (sealed.size : Int) - 32) = true := by simp; omega
    go_enter Tryz.func62, Tryz.ntmps62
    go_wp2_with fail
    go_ret2
    exact ⟨rfl, b0⟩

def OpenPost (F K : Nat → Int) (key nonce ad c t : List UInt8) : Value :=
  if tagF F K key ad nonce c = t then .tuple #[.string (bs (turnF F K key nonce c)), .int .i64 0] else .tuple #[.string ⟨#[]⟩, .int .i64 10]

set_option maxHeartbeats 2000000 in
theorem plainOpen_any (w : World) (key nonce ad sealed : ByteArray) (n : Nat) (hk : key.size = 32) (h1 : nonce.size ≤ 1000000000) (h2 : ad.size ≤ 1000000000) (hs : sealed.size = n + 32) (hn : n ≤ 16384) (F K : Nat → Int) (hT : Tabs w F K) :
    Calls Tryz.prog 62 #[.agg #[], .string key, .string nonce, .string ad, .string sealed] w fun e w' => e = .returned (OpenPost F K key.data.toList nonce.data.toList ad.data.toList (sealed.data.toList.take n) (sealed.data.toList.drop n)) ∧ Below w.heap.size w w' := by
  have hkd : ((key.size : Int) != 32) = false := by rw [bne_eq_false_iff_eq]; omega
  have HK : Hid (key.size = 32) := hk
  have hsub : (sealed.size : Int) - 32 = (n : Int) := by omega
  have hd1 : decide ((n : Int) < 0) = false := by simp
  have hd2 : decide (16384 < (n : Int)) = false := by simp; omega
  have HSS : Hid (sealed.size = n + 32) := hs
  have hsn : n ≤ sealed.size := by omega
  clear hk hs
  go_enter Tryz.func62, Tryz.ntmps62
  go_wp2_with fail
  have b0 : Below w.heap.size w (w.alloc (.cells #[] 75)) := (Below.refl _ _).alloc (Nat.le_refl _) _
  have hT0 := hT.later b0
  refine (two_any (w.alloc (.cells #[] 75)) key (by have := HK.out; omega) F K hT0).mono ?_
  rintro e w1 ⟨rfl, c1⟩
  have b1 := b0.trans (c1.mono (by simp))
  have hT1 := hT.later b1
  clear hT0 b0 c1
  obtain ⟨k1, hk1⟩ : ∃ k1, k1 = bs (firstF F K key.data.toList) := ⟨_, rfl⟩
  obtain ⟨k2, hk2⟩ : ∃ k2, k2 = bs (secondF F K key.data.toList) := ⟨_, rfl⟩
  have hl1 : k1.size = 32 := by rw [hk1, bs_size, firstF_length]
  have hl2 : k2.size = 32 := by rw [hk2, bs_size, secondF_length]
  have hd1' : k1.data.toList = firstF F K key.data.toList := by rw [hk1, bs_list]
  have hd2' : k2.data.toList = secondF F K key.data.toList := by rw [hk2, bs_list]
  rw [← hk1, ← hk2]
  clear hk1 hk2
  obtain ⟨c, hc⟩ : ∃ c, c = sealed.extract 0 n := ⟨_, rfl⟩
  obtain ⟨t, ht⟩ : ∃ t, t = sealed.extract n sealed.size := ⟨_, rfl⟩
  have hcd : c.data.toList = sealed.data.toList.take n := by rw [hc]; simp
  have htd : t.data.toList = sealed.data.toList.drop n := by rw [ht]; simp; exact List.take_of_length_le (by simp)
  have hcl : c.size = n := by rw [hc, ByteArray.size_extract]; omega
  have htag : ∀ x : Later w1, Calls Tryz.prog 73 #[.string k2, .string ad, .string nonce, .string c] x.v fun e w' => e = .returned (.string (bs (tagF F K key.data.toList ad.data.toList nonce.data.toList (sealed.data.toList.take n)))) ∧ Below x.v.heap.size x.v w' := fun x => by
    have h := tag_any x.v k2 ad nonce c hl2 h2 h1 (by omega) F K (hT1.later x.h)
    rw [hd2', hcd] at h
    exact h
  obtain ⟨tg, htg⟩ : ∃ tg, tg = bs (tagF F K key.data.toList ad.data.toList nonce.data.toList (sealed.data.toList.take n)) := ⟨_, rfl⟩
  rw [← htg] at htag
  have htgl : tg.size = 32 := by rw [htg, bs_size, tagF_length]
  have heq : ∀ x : Later w1, Calls Tryz.prog 70 #[.string tg, .string t] x.v fun e w' => e = .returned (.bool (decide (tg = t))) ∧ Below x.v.heap.size x.v w' := fun x => equal_any x.v tg t (by omega) (by rw [ht, ByteArray.size_extract]; omega)
  have hturn : ∀ x : Later w1, Calls Tryz.prog 74 #[.string k1, .string k2, .string nonce, .string c] x.v fun e w' => e = .returned (.tuple #[.string (bs (turnF F K key.data.toList nonce.data.toList (sealed.data.toList.take n))), .int .i64 0]) ∧ Below x.v.heap.size x.v w' := fun x => by
    have h := turned_any x.v k1 k2 nonce c hl1 hl2 h1 (by omega) F K (hT1.later x.h)
    rw [hd1', hd2', hcd] at h
    exact h
  have hdt : decide (tg = t) = decide (tagF F K key.data.toList ad.data.toList nonce.data.toList (sealed.data.toList.take n) = sealed.data.toList.drop n) := by
    congr 1
    rw [htg]
    apply propext
    constructor
    · intro h; rw [← htd, ← h, bs_list]
    · intro h; rw [h, ← htd, bs_of]
  rw [ht] at heq hdt
  rw [hc] at htag hturn
  have HDT : Hid (decide (tg = sealed.extract n sealed.size) = decide (tagF F K key.data.toList ad.data.toList nonce.data.toList (sealed.data.toList.take n) = sealed.data.toList.drop n)) := hdt
  clear hc ht hcd htd hcl hl1 hl2 hd1' hd2' htg htgl hdt hT1
  obtain ⟨bb, hbb⟩ : ∃ bb, bb = decide (tg = sealed.extract n sealed.size) := ⟨_, rfl⟩
  rw [← hbb] at heq
  have HBB : Hid (bb = decide (tagF F K key.data.toList ad.data.toList nonce.data.toList (sealed.data.toList.take n) = sealed.data.toList.drop n)) := hbb.trans HDT
  clear hbb HDT
  cases bb
  · have hne : ¬ (tagF F K key.data.toList ad.data.toList nonce.data.toList (sealed.data.toList.take n) = sealed.data.toList.drop n) := of_decide_eq_false HBB.symm
    clear HBB hturn
    go_wp2_with fail
    refine wp_region_later (by kernel_rfl) (by kernel_rfl) ?_
    repeat (go_big_quiet_step (first | (go_at_call 73; exact later_of (htag _)) | (go_at_call 70; exact later_of (heq _))))
    refine wpQuiet_nil ?_
    intro _ hw'
    obtain ⟨x, hw''⟩ := hw'
    subst hw''
    have b2 := b1.trans (x.h.mono b1.size)
    clear htag heq b1
    go_wp2
    go_ret2
    refine ⟨?_, b2⟩
    rw [OpenPost, if_neg hne]
    rfl
  · have hne : tagF F K key.data.toList ad.data.toList nonce.data.toList (sealed.data.toList.take n) = sealed.data.toList.drop n := of_decide_eq_true HBB.symm
    clear HBB
    have HNE := (show Hid _ from hne)
    clear hne
    go_wp2_with fail
    refine wp_region_later (by kernel_rfl) (by kernel_rfl) ?_
    repeat (go_big_quiet_step (first | (go_at_call 73; exact later_of (htag _)) | (go_at_call 70; exact later_of (heq _))))
    refine wpQuiet_nil ?_
    intro _ hw'
    obtain ⟨x, hw''⟩ := hw'
    subst hw''
    have b2 := b1.trans (x.h.mono b1.size)
    have hcall := hturn x
    clear htag heq b1 hturn
    go_wp2_with fail
    refine hcall.mono ?_
    rintro e w3 ⟨rfl, c3⟩
    have b3 := b2.trans (c3.mono b2.size)
    clear hcall b2 c3
    go_wp2
    go_ret2
    refine ⟨?_, b3⟩
    rw [OpenPost, if_pos HNE.out]
    rfl
end Go.Proofs.YtipehnojibdfeaaGreat

/- prim's long: is one of the texts too long? -/
namespace Go.Proofs.YtipehnojibdfeaaGreat
open Go Go.Proofs Go.RowKit

theorem longOne_any (w : World) (s : ByteArray) : Calls Tryz.prog 38 #[.string s] w fun e w' => e = .returned (.bool (decide (16384 < s.size))) ∧ w' = w := by
  go_enter Tryz.func38, Tryz.ntmps38
  go_wp2_with fail
  go_ret
  exact ⟨by simp; omega, rfl⟩

def longL (ss : List ByteArray) : Bool := ss.any fun s => decide (16384 < s.size)
def IndexPost (ss : List ByteArray) (w : World) (e : Ending) (w' : World) : Prop := w' = w ∧ ∃ i : Int, e = .returned (.int .i64 i) ∧ (0 ≤ i ↔ longL ss = true)

set_option maxHeartbeats 2000000 in
theorem longIndex_any (w : World) (ss : List ByteArray) (pa : Option Addr) (n c B : Nat) (hp : Reads w B 1 pa n (ss.map .string)) (hn : n ≤ 100000000000000) :
    Calls Tryz.prog 40 #[.slice pa n c, .func (.func 38) #[] #[]] w (IndexPost ss w) := by
  have hl : ss.length = n := by have := hp.1; simpa using this
  have HL : Hid (ss.length = n) := hl
  clear hl
  go_enter Tryz.func40, Tryz.ntmps40
  go_wp2_with fail
  go_loopw [8] (fun i wr => ∃ k : Nat, k ≤ n ∧ i = .int .i64 k ∧ longL (ss.take k) = false ∧ wr = w) (fun i _ => n - (intOf i).toNat)
  case atStart => exact ⟨0, by omega, rfl, by simp [longL], rfl⟩
  case round =>
    obtain ⟨k, hk, rfl, hno, rfl⟩ := hrel
    by_cases hkn : k < n
    · have hkd : decide ((k : Int) < (n : Int)) = true := by simp; omega
      obtain ⟨bk, o, hA, hbk, hcell⟩ := hp.addr (by omega)
      subst hA
      have hks : k < ss.length := by have := HL.out; omega
      obtain ⟨s, hs⟩ : ∃ s, s = ss[k] := ⟨_, rfl⟩
      have hc := hcell k (.string s) (by rw [hs]; simp [hks])
      have htake : longL (ss.take (k + 1)) = decide (16384 < s.size) := by
        rw [longL, List.take_add_one]
        rw [longL] at hno
        rw [List.any_append, hno]
        simp [hks, hs]
      have HT : Hid (longL (ss.take (k + 1)) = decide (16384 < s.size)) := htake
      have HSUB : Hid (longL (ss.take (k + 1)) = true → longL ss = true) := fun h => by
        rw [longL, List.any_eq_true] at h ⊢
        obtain ⟨x, hx, hx2⟩ := h
        exact ⟨x, List.mem_of_mem_take hx, hx2⟩
      clear hcell hp hs htake hno
      obtain ⟨bb, hbb⟩ : ∃ bb, bb = decide (16384 < s.size) := ⟨_, rfl⟩
      have hcall := fun W => longOne_any W s
      rw [← hbb] at hcall
      have HT2 : Hid (longL (ss.take (k + 1)) = bb) := HT.trans hbb.symm
      clear hbb HT
      cases bb
      · go_wp2_with fail
        refine (hcall _).mono ?_
        rintro e w' ⟨rfl, rfl⟩
        go_wp2
        go_roundw
        case rel => exact ⟨k + 1, by omega, by go_num, HT2.out, by first | rfl | trivial⟩
        case measure => simp [intOf]; omega
      · go_wp2_with fail
        refine (hcall _).mono ?_
        rintro e w' ⟨rfl, rfl⟩
        have hfin : longL ss = true := HSUB.out HT2.out
        go_wp2
        go_ret
        exact ⟨rfl, _, rfl, by simp [hfin]⟩
    · have hkd : decide ((k : Int) < (n : Int)) = false := by simp; omega
      have hfin : longL ss = false := by
        have e : ss.take k = ss := List.take_of_length_le (by have := HL.out; omega)
        rw [← e]; exact hno
      go_wp2
      go_ret
      exact ⟨rfl, _, rfl, by simp [hfin]⟩

theorem longContains_any (w : World) (ss : List ByteArray) (pa : Option Addr) (n c B : Nat) (hp : Reads w B 1 pa n (ss.map .string)) (hn : n ≤ 100000000000000) :
    Calls Tryz.prog 37 #[.slice pa n c, .func (.func 38) #[] #[]] w fun e w' => e = .returned (.bool (longL ss)) ∧ w' = w := by
  have h := longIndex_any w ss pa n c B hp hn
  go_enter Tryz.func37, Tryz.ntmps37
  go_wp2_with fail
  refine h.mono ?_
  rintro e w' ⟨rfl, i, rfl, hi⟩
  have hd : decide (0 ≤ i) = longL ss := by
    cases hb : longL ss
    · simp [hb] at hi ⊢; exact hi
    · simp [hb] at hi ⊢; exact hi
  clear h hi
  go_wp2
  go_ret
  exact ⟨by simp [hd], rfl⟩
theorem long_any (w : World) (ss : List ByteArray) (pa : Option Addr) (n c B : Nat) (hp : Reads w B 1 pa n (ss.map .string)) (hn : n ≤ 100000000000000) :
    Calls Tryz.prog 28 #[.slice pa n c] w fun e w' => e = .returned (.bool (longL ss)) ∧ w' = w := by
  have h := longContains_any w ss pa n c B hp hn
  go_enter Tryz.func28, Tryz.ntmps28
  go_wp2_with fail
  refine h.mono ?_
  rintro e w' ⟨rfl, rfl⟩
  go_wp2
  go_ret
  exact ⟨rfl, rfl⟩
end Go.Proofs.YtipehnojibdfeaaGreat

/- prim.New of the real kind; none. -/
namespace Go.Proofs.YtipehnojibdfeaaGreat
open Go Go.Proofs Go.RowKit

/-- a prim's cells: its kind, its kit, its table, its journal -/
def realCells (j : Value) : Array Value := #[.int .i64 0, .iface 75 (.agg #[]), .pointer none, j]
theorem newReal (w : World) : Calls Tryz.prog 21 #[.int .i64 0] w fun e w' => e = .returned (.tuple #[.pointer (some ⟨w.heap.size, 0, none⟩), .int .i64 0]) ∧ Blk w' w.heap.size 56 (realCells (.slice none 0 0)) ∧ Below w.heap.size w w' := by
  go_enter Tryz.func21, Tryz.ntmps21
  go_wp2_with fail
  go_ret2
  exact ⟨rfl, Blk.new _ _ _, (Below.refl _ _).alloc (Nat.le_refl _) _⟩
theorem none_any (w : World) (p : Nat) (j : Value) (hp : Blk w p 56 (realCells j)) : Calls Tryz.prog 27 #[.pointer (some ⟨p, 0, none⟩)] w fun e w' => e = .returned (.bool false) ∧ w' = w := by
  have hc := hp.cell 1
  have hc' : w.cell? ⟨p, 1, none⟩ = some (.iface 75 (.agg #[])) := hc
  clear hc
  go_enter Tryz.func27, Tryz.ntmps27
  go_wp2_with fail
  go_ret
  exact ⟨rfl, rfl⟩
end Go.Proofs.YtipehnojibdfeaaGreat

/- prim's Secret of the real kind. -/
namespace Go.Proofs.YtipehnojibdfeaaGreat
open Go Go.Proofs Go.RowKit

theorem plainSecret_any (w : World) (d : ByteArray) (hd : d.size = 32) : Calls Tryz.prog 65 #[.agg #[], .string d] w fun e w' => e = .returned (.string d) ∧ Below w.heap.size w w' := by
  have hkd : ((d.size : Int) != 32) = false := by rw [bne_eq_false_iff_eq]; omega
  clear hd
  go_enter Tryz.func65, Tryz.ntmps65
  go_wp2_with fail
  go_ret
  exact ⟨rfl, (Below.refl _ _).alloc (Nat.le_refl _) _⟩
theorem meets_secret (n : Nat) (W : World) : (method (n + 1) 75 (.agg #[]) "missive/prim.secret").run Tryz.prog W = .ok (65, .agg #[]) W := by kernel_rfl

set_option maxRecDepth 100000 in
set_option maxHeartbeats 2000000 in
theorem secretReal_any (w : World) (p : Nat) (j : Value) (hp : Blk w p 56 (realCells j)) (d : ByteArray) (hd : d.size = 32) : Calls Tryz.prog 9 #[.pointer (some ⟨p, 0, none⟩), .string d] w fun e w' => e = .returned (.string d) ∧ Below w.heap.size w w' := by
  have h1 := none_any w p j hp
  have h2 := plainSecret_any w d hd
  have hc' : w.cell? ⟨p, 1, none⟩ = some (.iface 75 (.agg #[])) := hp.cell 1
  clear hp
  go_enter Tryz.func9, Tryz.ntmps9
  go_wp2_with fail
  refine h1.mono ?_
  rintro e w' ⟨rfl, rfl⟩
  go_wp2_with fail
  rw [meets_secret]
  go_wp2_with fail
  refine h2.mono ?_
  rintro e w2 ⟨rfl, hb⟩
  clear h1 h2
  go_wp2
  go_ret
  exact ⟨rfl, hb⟩
end Go.Proofs.YtipehnojibdfeaaGreat

/- prim's did: a deed laid behind the journal. -/
namespace Go.Proofs.YtipehnojibdfeaaGreat
open Go Go.Proofs Go.RowKit

theorem step_append_own {P : Program} {ops : Array Oper} {o : Oper} {a : Act} {w : World} {K : Act → World → Prop} {Q : Exit → Act → World → Prop} {E : Prop}
    (hg : o.guard = none) (s x : Operand) (t : TypeId) (hop : o.op = Op.call { callee := Callee.builtin Builtin.append, args := #[s, x], argTypes := #[t, t] })
    (base : Nat) (e : TypeId) (i : TypeInfo) (z : Value) (size bytes : Nat) (ht : P.underlying t = some (.slice e)) (hi : P.info? e = some i) (hz : i.zero = some z)
    (hsize : i.size = size) (hby : i.bytes = bytes) (hzs : z.cells.size = size) (hsz : 0 < size)
    (v : Value) (n : Nat) (xs : List Value) (hs : a.eval s = v) (hown : w.ownsRow base e size v n xs)
    (ad : Addr) (m c : Nat) (news : List Value) (hx : a.eval x = .slice (some ad) m c) (hl : news.length = m * size) (hnews : ∀ j u, news[j]? = some u → w.cell? (ad.add j) = some u) (h1 : ∀ u ∈ news, u.oneCell' = true)
    (h63 : n + m ≤ maxLen) (hbytes : (n + m) * bytes ≤ 140737488355328) (hbase : base ≤ w.heap.size)
    (hK : ∀ v' w', w'.ownsRow base e size v' (n + m) (xs ++ news) → w.grownBy w' v.ownBlock → K (a.put o.dst v') w') :
    if Region.wanted o (yielded ops a.tmps) = true then Oper.wp P o a w K Q else E := by
  have hw : Region.wanted o (yielded ops a.tmps) = true := by simp [Region.wanted, hg]
  rw [if_pos hw]
  obtain ⟨v', w', hr, h2, h3, h4⟩ := run_append_own (P := P) w base t o.type e i z size bytes ht hi hz hsize hby hzs hsz v n xs hown ad m c news hl hnews h1 h63 hbytes hbase
  unfold Oper.wp execOp
  simp only [hop, resolve, invoke, builtin, Sem.run_bind, Sem.run_pure, Result.andThen_ok, List.map_toArray, List.map_cons, List.map_nil, hs, hx, hr]
  exact hK v' w' h2 h3

def deedCells (k : Int) (key nonce ad text out : ByteArray) : List Value := [.int .i64 k, .string key, .string nonce, .string ad, .string text, .string out]
/-- a prim of the real kind that lies at p, its journal a row behind 'base' -/
def RealPrim (w : World) (base p n : Nat) : Prop :=
  ∃ j xs, Blk w p 56 (realCells j) ∧ w.ownsRow base 60 6 j n xs ∧ j.ownBlock ≠ some p

theorem ownsRow_slice {w : World} {base : Nat} {e : TypeId} {size n : Nat} {v : Value} {xs : List Value} (h : w.ownsRow base e size v n xs) : ∃ A c, v = .slice A n c := by
  rcases h.2 with ⟨rfl, rfl⟩ | ⟨g, cap, cur, rfl, _⟩
  · exact ⟨none, 0, rfl⟩
  · exact ⟨_, _, rfl⟩
theorem deedInfo0 : ((Tryz.prog.info? 60).map fun i => (i.size, i.bytes, i.zero.map (·.cells.size))) = some (6, 88, some 6) := by kernel_rfl
theorem deedInfo : ∃ i z, Tryz.prog.info? 60 = some i ∧ i.zero = some z ∧ i.size = 6 ∧ i.bytes = 88 ∧ z.cells.size = 6 := by
  have h := deedInfo0
  cases hi : Tryz.prog.info? 60 with
  | none => rw [hi] at h; simp at h
  | some i =>
    rw [hi] at h
    simp at h
    obtain ⟨h1, h2, z, hz, h3⟩ := h
    exact ⟨i, z, rfl, hz, h1, h2, h3⟩

set_option maxHeartbeats 2000000 in
theorem did_any (w : World) (base p n : Nat) (hp : RealPrim w base p n) (hn : n ≤ 1000000) (hb : base ≤ w.heap.size) (hbp : base ≤ p) (k : Int) (key nonce ad text out : ByteArray) :
    Calls Tryz.prog 29 #[.pointer (some ⟨p, 0, none⟩), .agg (deedCells k key nonce ad text out).toArray] w fun e w' => e = .returned (.tuple #[]) ∧ RealPrim w' base p (n + 1) ∧ Below base w w' := by
  obtain ⟨j, xs, hB, hJ, hne⟩ := hp
  go_enter Tryz.func29, Tryz.ntmps29
  go_wp2_with fail
  obtain ⟨w1, hw1⟩ : ∃ w1, w1 = w.alloc (.cells (deedCells k key nonce ad text out).toArray 60) := ⟨_, rfl⟩
  have hD : Blk w1 w.heap.size 60 (deedCells k key nonce ad text out).toArray := by rw [hw1]; exact Blk.new _ _ _
  have hB1 : Blk w1 p 56 (realCells j) := by rw [hw1]; exact hB.alloc _
  have hJ1 : w1.ownsRow base 60 6 j n xs := by rw [hw1]; exact hJ.alloc _
  have q1 : Below w.heap.size w w1 := by rw [hw1]; exact (Below.refl _ _).alloc (Nat.le_refl _) _
  first | rw [← hw1] | skip
  clear hw1 hB hJ
  have C0 : w1.cell? ⟨p, 3, none⟩ = some j := hB1.cell 3
  have F0 : w1.frozen? ⟨p, 3, none⟩ = false := hB1.frozen 3
  have D0 : w1.cell? ⟨w.heap.size, 0, none⟩ = some (.int .i64 k) := hD.cell 0
  have D1 : w1.cell? ⟨w.heap.size, 1, none⟩ = some (.string key) := hD.cell 1
  have D2 : w1.cell? ⟨w.heap.size, 2, none⟩ = some (.string nonce) := hD.cell 2
  have D3 : w1.cell? ⟨w.heap.size, 3, none⟩ = some (.string ad) := hD.cell 3
  have D4 : w1.cell? ⟨w.heap.size, 4, none⟩ = some (.string text) := hD.cell 4
  have D5 : w1.cell? ⟨w.heap.size, 5, none⟩ = some (.string out) := hD.cell 5
  have hJd : w1.drew.ownsRow base 60 6 j n xs := hJ1
  have hBd : Blk w1.drew p 56 (realCells j) := hB1
  have hJ2 := hJd.alloc (.cells #[.int .i64 k, .string key, .string nonce, .string ad, .string text, .string out] 60)
  have hB2 := hBd.alloc (.cells #[.int .i64 k, .string key, .string nonce, .string ad, .string text, .string out] 60)
  have hnews : ∀ i u, (deedCells k key nonce ad text out)[i]? = some u → (w1.drew.alloc (.cells #[.int .i64 k, .string key, .string nonce, .string ad, .string text, .string out] 60)).cell? ((⟨w1.heap.size, 0, none⟩ : Addr).add i) = some u := by
    intro i u hi
    rw [addr_add, Nat.zero_add, show (w1.drew.alloc (.cells #[.int .i64 k, .string key, .string nonce, .string ad, .string text, .string out] 60)).cell? ⟨w1.heap.size, i, none⟩ = _ from (Blk.new w1.drew 60 _).cell i]
    simpa [deedCells] using hi
  have h1c : ∀ u ∈ deedCells k key nonce ad text out, u.oneCell' = true := by
    intro u hu
    simp [deedCells] at hu
    rcases hu with h | h | h | h | h | h <;> subst h <;> rfl
  have hbw : base ≤ (w1.drew.alloc (.cells #[.int .i64 k, .string key, .string nonce, .string ad, .string text, .string out] 60)).heap.size := by
    have := q1.size
    have e : (w1.drew.alloc (.cells #[.int .i64 k, .string key, .string nonce, .string ad, .string text, .string out] 60)).heap.size = w1.heap.size + 1 := by rw [World.size_alloc]; rfl
    omega
  obtain ⟨iD, zD, hi, hz, hs, hby, hzs⟩ := deedInfo
  have C0b : (w1.alloc (.cells #[.int .i64 k, .string key, .string nonce, .string ad, .string text, .string out] 60)).cell? ⟨p, 3, none⟩ = some j := (hB1.alloc _).cell 3
  have fin : ∀ (w' : World) (A : Option Addr) (c : Nat), w'.ownsRow base 60 6 (.slice A (n + 1) c) (n + 1) (xs ++ deedCells k key nonce ad text out) → (w1.drew.alloc (.cells #[.int .i64 k, .string key, .string nonce, .string ad, .string text, .string out] 60)).grownBy w' j.ownBlock → Blk w' p 56 (realCells j) → RealPrim (w'.setCell ⟨p, 3, none⟩ (.slice A (n + 1) c)) base p (n + 1) ∧ Below base w (w'.setCell ⟨p, 3, none⟩ (.slice A (n + 1) c)) := by
    intro w' A c hv hg hB3
    have hne2 := own_blk_ne hv hB3 (by decide)
    refine ⟨⟨_, _, hB3.set_ 3 _, hv.kept (grownBy_set (grownBy_refl _ _) _) (.inr hne2), hne2⟩, ?_⟩
    have b1 : Below base w (w1.drew.alloc (.cells #[.int .i64 k, .string key, .string nonce, .string ad, .string text, .string out] 60)) := (show Below base w w1.drew from ⟨q1.os, q1.tape, q1.output, q1.size, fun i hi => q1.block i (by omega)⟩).alloc (by show base ≤ w1.heap.size; have := q1.size; omega) _
    exact (b1.grown hg hbw (fun k hk => hJ1.ownBlock_ge hk)).setCell hbp _
  go_region_law (refine step_append_own rfl (.tmp 8) (.tmp 10) 49 rfl base 60 iD zD 6 88 Tryz.underlying49 hi hz hs hby hzs (by decide) j n xs rfl hJ2 ⟨w1.heap.size, 0, none⟩ 1 1 (deedCells k key nonce ad text out) rfl rfl hnews h1c (by unfold maxLen; omega) (by omega) hbw ?_; intro v' w' hv' hg'; have hB3 := hB2.grown hg' (fun h => hne h.symm); have C3 : w'.cell? ⟨p, 3, none⟩ = some j := hB3.cell 3; have F3 : w'.frozen? ⟨p, 3, none⟩ = false := hB3.frozen 3; obtain ⟨A, c, hv2⟩ := ownsRow_slice hv'; subst hv2)
  all_goals (go_end0; exact ⟨rfl, fin _ _ _ hv' hg' hB3⟩)
end Go.Proofs.YtipehnojibdfeaaGreat
