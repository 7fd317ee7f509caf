/- prim's kind of terms: secret, public, dh, seal. -/
import Derived.Test.YtipehnojibdfeaaGreatSym1
namespace Go.Proofs.YtipehnojibdfeaaGreat
open Go Go.Proofs Go.RowKit

set_option maxRecDepth 100000 in
set_option maxHeartbeats 4000000 in
theorem symSecret_any (w : World) (base t M : Nat) (T : List Node) (k : Nat) (hT : TableAt w base t M T k) (hb : base ≤ w.heap.size) (hlen : T.length ≤ 60000) (hk : k ≤ 60000) (d : ByteArray) :
    Calls Tryz.prog 128 #[.agg #[.pointer (some ⟨t, 0, none⟩)], .string d] w fun e w' => e = .returned (.string (bs (textL (putN T (.name k)).2))) ∧ TableAt w' base t M (putN T (.name k)).1 (k + 1) ∧ TF base w w' := by
  have b1 : Below w.heap.size w (w.alloc (.cells #[.pointer (some ⟨t, 0, none⟩)] 78)) := (Below.refl _ _).alloc (Nat.le_refl _) _
  have hf := termFresh_any _ base t M T k (hT.later b1) (Nat.le_trans hb b1.size) hlen hk
  go_enter Tryz.func128, Tryz.ntmps128
  go_wp2_with fail
  refine hf.mono ?_
  rintro e w2 ⟨rfl, hT2, q2⟩
  clear hf
  go_wp2
  go_ret
  exact ⟨rfl, hT2, (TF.of_below b1 hb).trans q2⟩
theorem strRow_new (w : World) (ss : List (List UInt8)) (cs : Array Value) (hcs : ∀ (j : Nat) s, ss[j]? = some s → cs[j]? = some (.string (bs s))) : StrRow (w.alloc (.cells cs 9)) (some ⟨w.heap.size, 0, none⟩) ss := .inr ⟨_, cs, _, rfl, Blk.new _ _ _, hcs⟩

set_option maxRecDepth 100000 in
set_option maxHeartbeats 4000000 in
theorem symPublic_any (w : World) (base t M : Nat) (T : List Node) (k : Nat) (hT : TableAt w base t M T k) (hM : M ≤ w.heap.size) (hb : base ≤ w.heap.size) (hlen : T.length ≤ 60000) (s : List UInt8) (hs : s.length ≤ 65536) :
    Calls Tryz.prog 126 #[.agg #[.pointer (some ⟨t, 0, none⟩)], .string (bs s)] w fun e w' => e = .returned (.tuple #[.string (bs (textL (makeN T 3 [] [s]).2)), .int .i64 0]) ∧ TableAt w' base t w'.heap.size (makeN T 3 [] [s]).1 k ∧ TF base w w' := by
  have b1 : Below w.heap.size w ((w.alloc (.cells #[.pointer (some ⟨t, 0, none⟩)] 78)).alloc (.cells #[.string (bs s)] 9)) := ((Below.refl _ _).alloc (Nat.le_refl _) _).alloc (by simp) _
  have hA := strRow_new (w.alloc (.cells #[.pointer (some ⟨t, 0, none⟩)] 78)) [s] #[.string (bs s)] (fun j x hj => by match j, hj with | 0, hj => simp at hj; subst hj; rfl)
  rw [World.size_alloc] at hA
  have hf := make_any _ base t M T k (hT.later b1) (Nat.le_trans hM b1.size) (Nat.le_trans hb b1.size) hlen 3 (by omega) [s] (by simp) (fun h => by omega) (fun _ => rfl) (fun h => by omega) (by simp; exact hs) _ 1 hA (fun W => right3_any W)
  clear hA
  go_enter Tryz.func126, Tryz.ntmps126
  go_wp2_with fail
  refine hf.mono ?_
  rintro e w2 ⟨rfl, hT2, q2⟩
  clear hf
  go_wp2
  go_ret2
  exact ⟨rfl, hT2, (TF.of_below b1 hb).trans q2⟩

set_option maxRecDepth 100000 in
set_option maxHeartbeats 4000000 in
theorem symDh_any (w : World) (base t M : Nat) (T : List Node) (k : Nat) (hT : TableAt w base t M T k) (hM : M ≤ w.heap.size) (hb : base ≤ w.heap.size) (hlen : T.length ≤ 60000) (s p : List UInt8) (hs : s.length ≤ 65536) (hp : p.length ≤ 65536) (hk4 : ∃ a b q n2 l2, (partsN T [] [s, p]).2 = [a, b] ∧ (partsN T [] [s, p]).1[b]? = some (.made 3 n2 l2 [q]) ∧ q ≤ 65536) :
    Calls Tryz.prog 123 #[.agg #[.pointer (some ⟨t, 0, none⟩)], .string (bs s), .string (bs p)] w fun e w' => e = .returned (.tuple #[.string (bs (textL (makeN T 4 [] [s, p]).2)), .int .i64 0]) ∧ TableAt w' base t w'.heap.size (makeN T 4 [] [s, p]).1 k ∧ TF base w w' := by
  have b1 : Below w.heap.size w ((w.alloc (.cells #[.pointer (some ⟨t, 0, none⟩)] 78)).alloc (.cells #[.string (bs s), .string (bs p)] 9)) := ((Below.refl _ _).alloc (Nat.le_refl _) _).alloc (by simp) _
  have hA := strRow_new (w.alloc (.cells #[.pointer (some ⟨t, 0, none⟩)] 78)) [s, p] #[.string (bs s), .string (bs p)] (fun j x hj => by
    match j, hj with
    | 0, hj => simp at hj; subst hj; rfl
    | 1, hj => simp at hj; subst hj; rfl)
  rw [World.size_alloc] at hA
  have hf := make_any _ base t M T k (hT.later b1) (Nat.le_trans hM b1.size) (Nat.le_trans hb b1.size) hlen 4 (by omega) [s, p] (by simp) (fun h => by omega) (fun h => by omega) (fun _ => hk4) (by simp; exact ⟨hs, hp⟩) _ 2 hA (fun W => right4_any W)
  clear hA hk4
  go_enter Tryz.func123, Tryz.ntmps123
  go_wp2_with fail
  refine hf.mono ?_
  rintro e w2 ⟨rfl, hT2, q2⟩
  clear hf
  go_wp2
  go_ret2
  exact ⟨rfl, hT2, (TF.of_below b1 hb).trans q2⟩

set_option maxRecDepth 100000 in
set_option maxHeartbeats 4000000 in
theorem symSeal_any (w : World) (base t M : Nat) (T : List Node) (k : Nat) (hT : TableAt w base t M T k) (hM : M ≤ w.heap.size) (hb : base ≤ w.heap.size) (hlen : T.length ≤ 60000) (s1 s2 s3 s4 : List UInt8) (h1 : s1.length ≤ 65536) (h2 : s2.length ≤ 65536) (h3 : s3.length ≤ 65536) (h4 : s4.length ≤ 65536) :
    Calls Tryz.prog 127 #[.agg #[.pointer (some ⟨t, 0, none⟩)], .string (bs s1), .string (bs s2), .string (bs s3), .string (bs s4)] w fun e w' => e = .returned (.tuple #[.string (bs (textL (makeN T 6 [] [s1, s2, s3, s4]).2)), .int .i64 0]) ∧ TableAt w' base t w'.heap.size (makeN T 6 [] [s1, s2, s3, s4]).1 k ∧ TF base w w' := by
  have b1 : Below w.heap.size w ((w.alloc (.cells #[.pointer (some ⟨t, 0, none⟩)] 78)).alloc (.cells #[.string (bs s1), .string (bs s2), .string (bs s3), .string (bs s4)] 9)) := ((Below.refl _ _).alloc (Nat.le_refl _) _).alloc (by simp) _
  have hA := strRow_new (w.alloc (.cells #[.pointer (some ⟨t, 0, none⟩)] 78)) [s1, s2, s3, s4] #[.string (bs s1), .string (bs s2), .string (bs s3), .string (bs s4)] (fun j x hj => by
    match j, hj with
    | 0, hj => simp at hj; subst hj; rfl
    | 1, hj => simp at hj; subst hj; rfl
    | 2, hj => simp at hj; subst hj; rfl
    | 3, hj => simp at hj; subst hj; rfl)
  rw [World.size_alloc] at hA
  have hf := make_any _ base t M T k (hT.later b1) (Nat.le_trans hM b1.size) (Nat.le_trans hb b1.size) hlen 6 (by omega) [s1, s2, s3, s4] (by simp) (fun _ => rfl) (fun h => by omega) (fun h => by omega) (by simp; exact ⟨h1, h2, h3, h4⟩) _ 4 hA (fun W => right6_any W)
  clear hA
  go_enter Tryz.func127, Tryz.ntmps127
  go_wp2_with fail
  refine hf.mono ?_
  rintro e w2 ⟨rfl, hT2, q2⟩
  clear hf
  go_wp2
  go_ret2
  exact ⟨rfl, hT2, (TF.of_below b1 hb).trans q2⟩
end Go.Proofs.YtipehnojibdfeaaGreat
