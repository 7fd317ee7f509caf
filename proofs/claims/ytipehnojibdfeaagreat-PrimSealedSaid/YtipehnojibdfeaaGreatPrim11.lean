/- prim of terms: New, none, Kit, Secret, Public, Dh. -/
import Derived.Test.YtipehnojibdfeaaGreatPrim10
namespace Go.Proofs.YtipehnojibdfeaaGreat
open Go Go.Proofs Go.RowKit

def symV (t : Nat) : Value := .agg #[.pointer (some ⟨t, 0, none⟩)]
/-- a prim of terms -/
def TermPrim (w : World) (base p n : Nat) (T : List Node) (k : Nat) : Prop :=
  ∃ t M, M ≤ w.heap.size ∧ base ≤ w.heap.size ∧ base ≤ p ∧ PrimAt w base p n (.int .i64 1) (.iface 78 (.agg #[.pointer (some ⟨t, 0, none⟩)])) (.pointer (some ⟨t, 0, none⟩)) ∧ TableAt w base t M T k
theorem TermPrim.later {w w' : World} {base p n : Nat} {T : List Node} {k : Nat} (h : TermPrim w base p n T k) (hb : Below w.heap.size w w') : TermPrim w' base p n T k := by
  obtain ⟨t, M, h1, h2, h3, h4, h5⟩ := h
  exact ⟨t, M, Nat.le_trans h1 hb.size, Nat.le_trans h2 hb.size, h3, h4.later hb, h5.later hb⟩

set_option maxRecDepth 100000 in
set_option maxHeartbeats 2000000 in
theorem newTerm_any (w : World) : Calls Tryz.prog 21 #[.int .i64 1] w fun e w' => (∃ p, e = .returned (.tuple #[.pointer (some ⟨p, 0, none⟩), .int .i64 0]) ∧ TermPrim w' w.heap.size p 0 [] 0) ∧ Below w.heap.size w w' := by
  have h := termNew_any w 0
  go_enter Tryz.func21, Tryz.ntmps21
  go_wp2_with fail
  refine h.mono ?_
  rintro e w1 ⟨t, rfl, ht, hT, b1⟩
  clear h
  go_wp2_with fail
  go_ret2
  have b2 := b1.alloc b1.size (.cells #[.int .i64 1, .iface 78 (.agg #[.pointer (some ⟨t, 0, none⟩)]), .pointer (some ⟨t, 0, none⟩), .slice none 0 0] 56)
  exact ⟨⟨_, rfl, t, 0, by omega, b2.size, b1.size, ⟨.slice none 0 0, [], Blk.new _ _ _, World.ownsRow_nil _ _ _ _, by simp [Value.ownBlock]⟩, hT.later ((Below.refl _ _).alloc (Nat.le_refl _) _)⟩, b2⟩

theorem noneT_any (w : World) (base p n : Nat) (T : List Node) (k : Nat) (hp : TermPrim w base p n T k) : Calls Tryz.prog 27 #[.pointer (some ⟨p, 0, none⟩)] w fun e w' => e = .returned (.bool false) ∧ w' = w := by
  obtain ⟨t, M, _, _, _, ⟨j, xs, hB, _, _⟩, _⟩ := hp
  have hc' : w.cell? ⟨p, 1, none⟩ = some (.iface 78 (.agg #[.pointer (some ⟨t, 0, none⟩)])) := hB.cell 1
  clear hB
  go_enter Tryz.func27, Tryz.ntmps27
  go_wp2_with fail
  go_ret
  exact ⟨rfl, rfl⟩
theorem kitT_any (w : World) (base p n : Nat) (T : List Node) (k : Nat) (hp : TermPrim w base p n T k) : Calls Tryz.prog 22 #[.pointer (some ⟨p, 0, none⟩)] w fun e w' => e = .returned (.int .i64 1) ∧ w' = w := by
  have h := noneT_any w base p n T k hp
  obtain ⟨t, M, _, _, _, ⟨j, xs, hB, _, _⟩, _⟩ := hp
  have hc' : w.cell? ⟨p, 0, none⟩ = some (.int .i64 1) := hB.cell 0
  clear hB
  go_enter Tryz.func22, Tryz.ntmps22
  go_wp2_with fail
  refine h.mono ?_
  rintro e w' ⟨rfl, hw⟩
  rw [hw]
  clear hw w' h
  go_wp2
  go_ret
  exact ⟨rfl, rfl⟩
theorem meetsT_secret (n : Nat) (W : World) (t : Nat) : (method (n + 1) 78 (.agg #[.pointer (some ⟨t, 0, none⟩)]) "missive/prim.secret").run Tryz.prog W = .ok (128, .agg #[.pointer (some ⟨t, 0, none⟩)]) W := by kernel_rfl
theorem meetsT_public (n : Nat) (W : World) (t : Nat) : (method (n + 1) 78 (.agg #[.pointer (some ⟨t, 0, none⟩)]) "missive/prim.public").run Tryz.prog W = .ok (126, .agg #[.pointer (some ⟨t, 0, none⟩)]) W := by kernel_rfl
theorem meetsT_dh (n : Nat) (W : World) (t : Nat) : (method (n + 1) 78 (.agg #[.pointer (some ⟨t, 0, none⟩)]) "missive/prim.dh").run Tryz.prog W = .ok (123, .agg #[.pointer (some ⟨t, 0, none⟩)]) W := by kernel_rfl
theorem meetsT_seal (n : Nat) (W : World) (t : Nat) : (method (n + 1) 78 (.agg #[.pointer (some ⟨t, 0, none⟩)]) "missive/prim.seal").run Tryz.prog W = .ok (127, .agg #[.pointer (some ⟨t, 0, none⟩)]) W := by kernel_rfl
theorem meetsT_open (n : Nat) (W : World) (t : Nat) : (method (n + 1) 78 (.agg #[.pointer (some ⟨t, 0, none⟩)]) "missive/prim.open").run Tryz.prog W = .ok (125, .agg #[.pointer (some ⟨t, 0, none⟩)]) W := by kernel_rfl
theorem notT_prim (cs : Array Value) : notTable (.cells cs 56 (0, 0)) := ⟨by decide, by decide⟩
theorem notT_deed (cs : Array Value) : notTable (.cells cs 60 (0, 0)) := ⟨by decide, by decide⟩

set_option maxRecDepth 100000 in
set_option maxHeartbeats 2000000 in
theorem secretT_any (w : World) (base p n : Nat) (T : List Node) (k : Nat) (hp : TermPrim w base p n T k) (hlen : T.length ≤ 60000) (hk : k ≤ 60000) (d : ByteArray) :
    Calls Tryz.prog 9 #[.pointer (some ⟨p, 0, none⟩), .string d] w fun e w' => e = .returned (.string (bs (textL (putN T (.name k)).2))) ∧ TermPrim w' base p n (putN T (.name k)).1 (k + 1) ∧ Below base w w' := by
  have h := noneT_any w base p n T k hp
  obtain ⟨t, M, hM, hb, hbp, hP, hT⟩ := hp
  have hs := symSecret_any w base t M T k hT hb hlen hk d
  obtain ⟨j, xs, hB, hJ, hne⟩ := hP
  have hc' : w.cell? ⟨p, 1, none⟩ = some (.iface 78 (.agg #[.pointer (some ⟨t, 0, none⟩)])) := hB.cell 1
  have HP : PrimAt w base p n (.int .i64 1) (.iface 78 (.agg #[.pointer (some ⟨t, 0, none⟩)])) (.pointer (some ⟨t, 0, none⟩)) := ⟨j, xs, hB, hJ, hne⟩
  clear hB hJ hne
  go_enter Tryz.func9, Tryz.ntmps9
  go_wp2_with fail
  refine h.mono ?_
  rintro e w' ⟨rfl, hw⟩
  rw [hw]
  clear hw w' h
  go_wp2_with fail
  rw [meetsT_secret]
  go_wp2_with fail
  refine hs.mono ?_
  rintro e w2 ⟨rfl, hT2, q2⟩
  clear hs
  go_wp2
  go_ret
  exact ⟨rfl, ⟨t, M, Nat.le_trans hM q2.1.size, Nat.le_trans hb q2.1.size, hbp, HP.far_ q2.2 notT_prim notT_deed, hT2⟩, q2.1⟩
set_option maxRecDepth 100000 in
set_option maxHeartbeats 2000000 in
theorem publicT_any (w : World) (base p n : Nat) (T : List Node) (k : Nat) (hp : TermPrim w base p n T k) (hlen : T.length ≤ 60000) (s : List UInt8) (hsl : s.length ≤ 65536) :
    Calls Tryz.prog 23 #[.pointer (some ⟨p, 0, none⟩), .string (bs s)] w fun e w' => e = .returned (.tuple #[.string (bs (textL (makeN T 3 [] [s]).2)), .int .i64 0]) ∧ TermPrim w' base p n (makeN T 3 [] [s]).1 k ∧ Below base w w' := by
  have h := noneT_any w base p n T k hp
  obtain ⟨t, M, hM, hb, hbp, hP, hT⟩ := hp
  have hs := symPublic_any w base t M T k hT hM hb hlen s hsl
  obtain ⟨j, xs, hB, hJ, hne⟩ := hP
  have hc' : w.cell? ⟨p, 1, none⟩ = some (.iface 78 (.agg #[.pointer (some ⟨t, 0, none⟩)])) := hB.cell 1
  have HP : PrimAt w base p n (.int .i64 1) (.iface 78 (.agg #[.pointer (some ⟨t, 0, none⟩)])) (.pointer (some ⟨t, 0, none⟩)) := ⟨j, xs, hB, hJ, hne⟩
  clear hB hJ hne
  go_enter Tryz.func23, Tryz.ntmps23
  go_wp2_with fail
  refine h.mono ?_
  rintro e w' ⟨rfl, hw⟩
  rw [hw]
  clear hw w' h
  go_wp2_with fail
  rw [meetsT_public]
  go_wp2_with fail
  refine hs.mono ?_
  rintro e w2 ⟨rfl, hT2, q2⟩
  clear hs
  go_wp2
  go_ret2
  exact ⟨rfl, ⟨t, _, Nat.le_refl _, Nat.le_trans hb q2.1.size, hbp, HP.far_ q2.2 notT_prim notT_deed, hT2⟩, q2.1⟩
set_option maxRecDepth 100000 in
set_option maxHeartbeats 2000000 in
theorem dhT_any (w : World) (base p n : Nat) (T : List Node) (k : Nat) (hp : TermPrim w base p n T k) (hlen : T.length ≤ 60000) (s u : List UInt8) (hsl : s.length ≤ 65536) (hul : u.length ≤ 65536) (hk4 : ∃ a b q n2 l2, (partsN T [] [s, u]).2 = [a, b] ∧ (partsN T [] [s, u]).1[b]? = some (.made 3 n2 l2 [q]) ∧ q ≤ 65536) :
    Calls Tryz.prog 24 #[.pointer (some ⟨p, 0, none⟩), .string (bs s), .string (bs u)] w fun e w' => e = .returned (.tuple #[.string (bs (textL (makeN T 4 [] [s, u]).2)), .int .i64 0]) ∧ TermPrim w' base p n (makeN T 4 [] [s, u]).1 k ∧ Below base w w' := by
  have h := noneT_any w base p n T k hp
  obtain ⟨t, M, hM, hb, hbp, hP, hT⟩ := hp
  have hs := symDh_any w base t M T k hT hM hb hlen s u hsl hul hk4
  obtain ⟨j, xs, hB, hJ, hne⟩ := hP
  have hc' : w.cell? ⟨p, 1, none⟩ = some (.iface 78 (.agg #[.pointer (some ⟨t, 0, none⟩)])) := hB.cell 1
  have HP : PrimAt w base p n (.int .i64 1) (.iface 78 (.agg #[.pointer (some ⟨t, 0, none⟩)])) (.pointer (some ⟨t, 0, none⟩)) := ⟨j, xs, hB, hJ, hne⟩
  clear hB hJ hne hk4
  go_enter Tryz.func24, Tryz.ntmps24
  go_wp2_with fail
  refine h.mono ?_
  rintro e w' ⟨rfl, hw⟩
  rw [hw]
  clear hw w' h
  go_wp2_with fail
  rw [meetsT_dh]
  go_wp2_with fail
  refine hs.mono ?_
  rintro e w2 ⟨rfl, hT2, q2⟩
  clear hs
  go_wp2
  go_ret2
  exact ⟨rfl, ⟨t, _, Nat.le_refl _, Nat.le_trans hb q2.1.size, hbp, HP.far_ q2.2 notT_prim notT_deed, hT2⟩, q2.1⟩
end Go.Proofs.YtipehnojibdfeaaGreat
