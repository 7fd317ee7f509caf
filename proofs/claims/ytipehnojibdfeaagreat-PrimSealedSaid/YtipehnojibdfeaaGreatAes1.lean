/- Contracts of aes's box, twice, the cipher's add, the mixing of a column: each computes its Lean twin. -/
import Derived.Test.YtipehnojibdfeaaGreatMac1
namespace Go.Proofs.YtipehnojibdfeaaGreat
open Go Go.Proofs Go.RowKit

theorem run_index_agg {P : Program} (T e : TypeId) (n : Nat) (cs : Array Value) (k : IntKind) (i : Nat) (hu : P.underlying T = some (.array n e)) (hs : ∀ w, (sizeOf e).run P w = .ok 1 w) (hg : ∀ w, (isAgg e).run P w = .ok false w) (hi : i < n) (v : Value) (hv : cs[i]? = some v) (w : World) :
    (Instr.index T (.agg cs) (.int k (i : Int))).run P w = .ok v w := by
  have h1 : (i : Int) < (n : Int) := by omega
  simp [Instr.index, asIntOf, run_underlying hu, hs, part, hg, hv]
  intro h
  omega

/-- the box of each byte -/
def sboxL : List Nat := [99, 124, 119, 123, 242, 107, 111, 197, 48, 1, 103, 43, 254, 215, 171, 118, 202, 130, 201, 125, 250, 89, 71, 240, 173, 212, 162, 175, 156, 164, 114, 192, 183, 253, 147, 38, 54, 63, 247, 204, 52, 165, 229, 241, 113, 216, 49, 21, 4, 199, 35, 195, 24, 150, 5, 154, 7, 18, 128, 226, 235, 39, 178, 117, 9, 131, 44, 26, 27, 110, 90, 160, 82, 59, 214, 179, 41, 227, 47, 132, 83, 209, 0, 237, 32, 252, 177, 91, 106, 203, 190, 57, 74, 76, 88, 207, 208, 239, 170, 251, 67, 77, 51, 133, 69, 249, 2, 127, 80, 60, 159, 168, 81, 163, 64, 143, 146, 157, 56, 245, 188, 182, 218, 33, 16, 255, 243, 210, 205, 12, 19, 236, 95, 151, 68, 23, 196, 167, 126, 61, 100, 93, 25, 115, 96, 129, 79, 220, 34, 42, 144, 136, 70, 238, 184, 20, 222, 94, 11, 219, 224, 50, 58, 10, 73, 6, 36, 92, 194, 211, 172, 98, 145, 149, 228, 121, 231, 200, 55, 109, 141, 213, 78, 169, 108, 86, 244, 234, 101, 122, 174, 8, 186, 120, 37, 46, 28, 166, 180, 198, 232, 221, 116, 31, 75, 189, 139, 138, 112, 62, 181, 102, 72, 3, 246, 14, 97, 53, 87, 185, 134, 193, 29, 158, 225, 248, 152, 17, 105, 217, 142, 148, 155, 30, 135, 233, 206, 85, 40, 223, 140, 161, 137, 13, 191, 230, 66, 104, 65, 153, 45, 15, 176, 84, 187, 22]
def sbox (x : Int) : Int := (sboxL.getD x.toNat 0 : Nat)
theorem sbox_in (x : Int) : 0 ≤ sbox x ∧ sbox x < 256 := by
  have h : ∀ n, sboxL.getD n 0 < 256 := by
    intro n
    by_cases hn : n < 256
    · have : ∀ m : Fin 256, sboxL.getD m.1 0 < 256 := by decide +kernel
      exact this ⟨n, hn⟩
    · have : sboxL.length = 256 := by decide +kernel
      rw [List.getD_eq_getElem?_getD, List.getElem?_eq_none (by omega)]
      decide
  unfold sbox
  have := h x.toNat
  omega
def boxAgg : Array Value := (sboxL.map fun (n : Nat) => Value.int .u8 (n : Int)).toArray
theorem boxAgg_get (i : Nat) (hi : i < 256) : boxAgg[i]? = some (.int .u8 (sbox i)) := by
  have : sboxL.length = 256 := by decide +kernel
  simp [boxAgg, sbox, List.getElem?_eq_getElem (show i < sboxL.length by omega)]

theorem wpList_run {P : Program} {ops : Array Oper} {rest : List Oper} {o : Oper} {a : Act} {w : World} {Q : Exit → Act → World → Prop} (hgd : o.guard = none) (v : Value) (hr : (execOp a.eval o).run P w = .ok (.value v) w)
    (h : wpList P ops Q rest (a.put o.dst v) w) : wpList P ops Q (o :: rest) a w :=
  wpList_plain hgd fun _ hK => by
    unfold Oper.wp
    rw [hr, Oper.upon_value]
    exact hK _ _ h
theorem wpList_new {P : Program} {ops : Array Oper} {rest : List Oper} {o : Oper} {a : Act} {w w' : World} {Q : Exit → Act → World → Prop} (hgd : o.guard = none) (v : Value) (hr : (execOp a.eval o).run P w = .ok (.value v) w')
    (h : wpList P ops Q rest (a.put o.dst v) w') : wpList P ops Q (o :: rest) a w :=
  wpList_plain hgd fun _ hK => by
    unfold Oper.wp
    rw [hr, Oper.upon_value]
    exact hK _ _ h
def zero256 : Array Value := (List.replicate 256 (Value.int .u8 0)).toArray

set_option maxRecDepth 100000 in
set_option maxHeartbeats 4000000 in
theorem box_any (w : World) : Calls Tryz.prog 112 #[] w fun e w' => e = .returned (.agg boxAgg) ∧ Below w.heap.size w w' := by
  have hz : Blk (w.alloc (.cells zero256 163)) w.heap.size 163 zero256 := Blk.new _ _ _
  have hi : (Tryz.prog.info? 163).map (·.size) = some boxAgg.size := by kernel_rfl
  have hs : zero256.size = boxAgg.size := by decide +kernel
  have h1 : boxAgg.all (·.oneCell') = true := by kernel_rfl
  go_enter Tryz.func112, Tryz.ntmps112
  go_wp2_with (first
    | ((with_reducible refine wpList_new (o := ⟨some 0, .alloc 163, _, _, _, _⟩) (w' := w.alloc (.cells zero256 163)) rfl (.pointer (some ⟨w.heap.size, 0, none⟩)) ?hnew ?_))
    | ((with_reducible refine wpList_run (o := ⟨some 1, .build _ _, _, _, _, _⟩) rfl (.agg boxAgg) ?hbuild ?_))
    | ((with_reducible refine wpList_store_row (op := ⟨none, .store _ _ _, _, _, _, _⟩) rfl 163 (.tmp 0) (.tmp 1) rfl w.heap.size 163 _ _ rfl rfl hz hi hs h1 ?_)))
  case hnew => kernel_rfl
  case hbuild => kernel_rfl
  refine bodyPost_ret (results_cell_row rfl _ _ w.heap.size 163 boxAgg (0, 0) _ rfl (hz.setRow boxAgg) Tryz.underlying163 rfl hi) rfl ?_
  exact ⟨rfl, below_setRow' ((Below.refl _ _).alloc (Nat.le_refl _) _) (Nat.le_refl _) _⟩

/-- twice a byte -/
def twice8 (x : Int) : Int := if x / 128 = 1 then xor8 (x * 2 % 256) 27 else x * 2 % 256
theorem twice8_in (x : Int) : 0 ≤ twice8 x ∧ twice8 x < 256 := by
  unfold twice8; split
  · exact xor8_in _ _
  · omega
theorem twice_any (w : World) (x : Int) (h0 : 0 ≤ x) (h1 : x < 256) : Calls Tryz.prog 113 #[.int .u8 x] w fun e w' => e = .returned (.int .u8 (twice8 x)) ∧ ∃ n, w' = w.drewN n := by
  by_cases h : x / 128 = 1
  · have ht : (x / 128 == 1) = true := by rw [beq_iff_eq]; exact h
    rw [twice8, if_pos h]
    clear h
    go_enter Tryz.func113, Tryz.ntmps113
    go_wp2
    go_ret
    exact ⟨rfl, 0, rfl⟩
  · have ht : (x / 128 == 1) = false := by rw [beq_eq_false_iff_ne]; exact h
    rw [twice8, if_neg h]
    clear h
    go_enter Tryz.func113, Tryz.ntmps113
    go_wp2
    go_ret
    exact ⟨rfl, 0, rfl⟩
end Go.Proofs.YtipehnojibdfeaaGreat
