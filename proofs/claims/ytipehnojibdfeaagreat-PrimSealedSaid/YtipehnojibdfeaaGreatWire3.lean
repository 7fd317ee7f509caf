/- wire's Reader: New, Take, Number. -/
import Derived.Test.YtipehnojibdfeaaGreatTerm2
import Derived.WalkMore
namespace Go.Proofs.YtipehnojibdfeaaGreat
open Go Go.Proofs Go.RowKit

/-- a reader of what is left -/
def ReaderAt (w : World) (r : Nat) (l : List UInt8) : Prop :=
  ∃ ad c, Blk w r 82 #[.slice (some ad) l.length c] ∧ ad.block < r ∧ l.length ≤ c ∧ ∀ j u, l[j]? = some u → w.cell? (ad.add j) = some (.int .u8 u.toNat)
theorem byteCells_get (s : ByteArray) (j : Nat) (u : UInt8) (h : s.data.toList[j]? = some u) : byteAt s.data.toList j = u.toNat := by
  rw [byteAt, List.getD_eq_getElem?_getD, h]; rfl
theorem new_any (w : World) (s : ByteArray) : Calls Tryz.prog 33 #[.string s] w fun e w' => ∃ r, e = .returned (.pointer (some ⟨r, 0, none⟩)) ∧ w.heap.size ≤ r ∧ ReaderAt w' r s.data.toList ∧ Below w.heap.size w w' := by
  have kb := fun W => Lib.run_convert_string_bytes (P := Tryz.prog) W 9 30 5 s (u := .string) Tryz.underlying9 Tryz.underlying30 Tryz.underlying5
  have hC := CRow.bytes w 5 s
  have q0 : Below w.heap.size w (Lib.bytesWorld w 5 s) := ⟨rfl, rfl, rfl, by rw [Lib.bytesWorld_size]; omega, fun i hi => Lib.bytesWorld_at_old _ _ _ i hi⟩
  have hcap : s.size ≤ grownCap w s.size 0 5 := grownCap_ge _ _ _ _
  go_enter Tryz.func33, Tryz.ntmps33
  go_wp2_with fail
  go_ret
  refine ⟨_, rfl, q0.size, ⟨⟨w.heap.size, 0, none⟩, _, Blk.new _ _ _, ?_, hcap, ?_⟩, q0.alloc q0.size _⟩
  · show w.heap.size < _
    rw [Lib.bytesWorld_size]; omega
  · intro j u hj
    have hlt : j < s.size := (List.getElem?_eq_some_iff.1 hj).1
    rw [addr_add, Nat.zero_add, World.cell?_alloc_lt _ _ _ (by show w.heap.size < _; rw [Lib.bytesWorld_size]; omega), hC.cell hlt, byteCells_get s j u hj]

theorem reader_set {w : World} {r : Nat} {v : Value} (hB : Blk w r 82 #[v]) {ad : Addr} {k c : Nat} {l : List UInt8} (had : ad.block < r) (hk : k = l.length) (hc : l.length ≤ c) (hcells : ∀ (j : Nat) u, l[j]? = some u → w.cell? (ad.add j) = some (.int .u8 u.toNat)) :
    ReaderAt (w.setCell ⟨r, 0, none⟩ (.slice (some ad) k c)) r l := by
  subst hk
  refine ⟨ad, c, hB.set_ 0 _, had, hc, fun j u hj => ?_⟩
  rw [World.cell?_setCell_other _ _ _ _ (fun e => by have := congrArg Addr.block e; rw [block_of_add] at this; simp at this; omega)]
  exact hcells j u hj
def TakePost (w : World) (r n : Nat) (l : List UInt8) (e : Ending) (w' : World) : Prop :=
  Below r w w' ∧ if n ≤ l.length then e = .returned (.tuple #[.string (bs (l.take n)), .bool true]) ∧ ReaderAt w' r (l.drop n) else e = .returned (.tuple #[.string (bs []), .bool false]) ∧ w' = w
set_option maxHeartbeats 2000000 in
set_option maxRecDepth 100000 in
theorem take_any (w : World) (r n : Nat) (l : List UInt8) (hr : ReaderAt w r l) : Calls Tryz.prog 39 #[.pointer (some ⟨r, 0, none⟩), .int .i64 (n : Int)] w (TakePost w r n l) := by
  obtain ⟨ad, c, hB, had, hc, hcells⟩ := hr
  have C0 : w.cell? ⟨r, 0, none⟩ = some (.slice (some ad) l.length c) := hB.cell 0
  have F0 : w.frozen? ⟨r, 0, none⟩ = false := hB.frozen 0
  by_cases hn : n ≤ l.length
  · have k1 : decide ((l.length : Int) < (n : Int)) = false := by simp; omega
    have kc := run_convert_bytes_back (P := Tryz.prog) w 30 9 5 ad n (l.take n) Tryz.underlying30 Tryz.underlying5 Tryz.underlying9 (fun j hj => by
      have hj' : j < n := by simp at hj; omega
      have hjl : j < l.length := by omega
      have := hcells j l[j] (List.getElem?_eq_getElem hjl)
      rw [this]; simp)
    have hlen : (l.take n).length = n := by simp [List.length_take, Nat.min_eq_left hn]
    rw [hlen] at kc
    obtain ⟨N, hN⟩ : ∃ N, N = l.length := ⟨_, rfl⟩
    rw [← hN] at C0 k1
    have hnN : n ≤ N := by omega
    have HN : Hid (N = l.length) := hN
    clear hN hlen
    go_enter Tryz.func39, Tryz.ntmps39
    go_wp2_with fail
    all_goals (go_ret2; refine ⟨(Below.refl r w).setCell (show r ≤ (⟨r, 0, none⟩ : Addr).block from Nat.le_refl _) _, ?_⟩; rw [if_pos hn]; refine ⟨rfl, reader_set hB ?_ (by rw [List.length_drop, HN.out]) ?_ ?_⟩)
    · exact had
    · rw [List.length_drop, ← HN.out]; have := HN.out; omega
    · intro j u hj
      rw [List.drop_of_length_le (by have := HN.out; omega)] at hj
      simp at hj
    · rw [block_of_add]; exact had
    · rw [List.length_drop]; omega
    · intro j u hj
      rw [add_of_add]
      exact hcells _ u (by rw [List.getElem?_drop] at hj; exact hj)
  · have k1 : decide ((l.length : Int) < (n : Int)) = true := by simp; omega
    have hnN : l.length < n := by omega
    go_enter Tryz.func39, Tryz.ntmps39
    go_wp2_with fail
    go_ret2
    exact ⟨Below.refl _ _, by rw [if_neg hn]; exact ⟨rfl, rfl⟩⟩

theorem beNat_snoc (l : List UInt8) (b : UInt8) : beNat (l ++ [b]) = beNat l * 256 + b.toNat := by simp [beNat]
theorem beFold_lt (l : List UInt8) : ∀ v : Nat, l.foldl (fun v b => v * 256 + b.toNat) v < (v + 1) * 256 ^ l.length := by
  induction l with
  | nil => intro v; simp
  | cons b l ih =>
    intro v
    have h := ih (v * 256 + b.toNat)
    have hb := b.toNat_lt
    have h2 : (v * 256 + b.toNat + 1) * 256 ^ l.length ≤ ((v + 1) * 256) * 256 ^ l.length := Nat.mul_le_mul_right _ (by omega)
    rw [List.foldl_cons, List.length_cons, Nat.pow_succ']
    rw [Nat.mul_assoc] at h2
    omega
theorem beNat_lt (l : List UInt8) : beNat l < 256 ^ l.length := by
  have := beFold_lt l 0
  simpa [beNat] using this
theorem beNat_take (l : List UInt8) (k : Nat) (hk : k < l.length) : beNat (l.take (k + 1)) = beNat (l.take k) * 256 + l[k].toNat := by
  rw [List.take_succ_eq_append_getElem hk, beNat_snoc]
theorem wraps_u64 (n : Int) (h0 : 0 ≤ n) (h1 : n < 2 ^ 64) : IntKind.u64.wrap n = n := by rw [IntKind.wrap_u64]; omega
theorem pow64 : (2 : Nat) ^ 64 = 18446744073709551616 := by decide
set_option maxRecDepth 100000 in
theorem u64_lay (x b : Nat) (hx : x * 256 + b < 18446744073709551616) (hb : b < 256) : bits BinOp.or IntKind.u64 (IntKind.u64.wrap ((x : Int) * 256)) (IntKind.u64.wrap (b : Int)) = ((x * 256 + b : Nat) : Int) := by
  have w1 : IntKind.u64.wrap ((x : Int) * 256) = ((x * 256 : Nat) : Int) := by
    rw [IntKind.wrap_u64]; omega
  have w2 : IntKind.u64.wrap (b : Int) = (b : Int) := by rw [IntKind.wrap_u64]; omega
  rw [w1, w2]
  have h := (bits_nat .u64 64 (by decide) wraps_u64 (x * 256) b (by rw [pow64]; omega) (by rw [pow64]; omega)).2
  rw [h]
  have h := Nat.two_pow_add_eq_or_of_lt (i := 8) (b := b) hb x
  have h2 : 2 ^ 8 * x = x * 256 := by omega
  rw [h2] at h
  rw [← h]
def NumberPost (w : World) (r n : Nat) (l : List UInt8) (e : Ending) (w' : World) : Prop :=
  Below r w w' ∧ if n ≤ l.length then e = .returned (.tuple #[.int .u64 (beNat (l.take n) : Nat), .bool true]) ∧ ReaderAt w' r (l.drop n) else e = .returned (.tuple #[.int .u64 0, .bool false]) ∧ w' = w
set_option maxRecDepth 100000 in
set_option maxHeartbeats 4000000 in
theorem number_any (w : World) (r n : Nat) (l : List UInt8) (hr : ReaderAt w r l) (h1 : 1 ≤ n) (h8 : n ≤ 8) : Calls Tryz.prog 34 #[.pointer (some ⟨r, 0, none⟩), .int .i64 (n : Int)] w (NumberPost w r n l) := by
  have ht := take_any w r n l hr
  go_enter Tryz.func34, Tryz.ntmps34
  go_wp2_with fail
  go_step3
  go_wp2_with fail
  refine ht.mono ?_
  rintro e w' ⟨hb, hp⟩
  clear ht
  by_cases hn : n ≤ l.length
  · rw [if_pos hn] at hp
    obtain ⟨rfl, hr'⟩ := hp
    have hsz : (bs (l.take n)).size = n := by rw [bs_size, List.length_take]; omega
    obtain ⟨s, hs⟩ : ∃ s, s = bs (l.take n) := ⟨_, rfl⟩
    rw [← hs] at hsz ⊢
    have HS : Hid (s = bs (l.take n)) := hs
    clear hs
    go_wp2
    go_step3
    go_wp2_with fail
    go_loopw [9, 27] (fun v i wr => ∃ k : Nat, k ≤ n ∧ i = .int .i64 k ∧ v = .int .u64 (beNat (l.take k) : Nat) ∧ wr = w') (fun _ i _ => 8 - (intOf i).toNat)
    case atStart => exact ⟨0, by omega, rfl, rfl, rfl⟩
    case round =>
      obtain ⟨k, hk, rfl, rfl, rfl⟩ := hrel
      by_cases hk8 : k < 8
      · by_cases hkn : k < n
        · have hkd : decide ((k : Int) = (n : Int)) = false := by simp; omega
          have hkl : k < l.length := by omega
          have hsk : s.data.toList[k]? = some l[k] := by rw [HS.out, bs_list, List.getElem?_take]; simp [hkn, hkl]
          have HB : Hid (beNat (l.take (k + 1)) = beNat (l.take k) * 256 + l[k].toNat) := beNat_take l k hkl
          have hlt := beNat_lt (l.take (k + 1))
          have hle : 256 ^ (l.take (k + 1)).length ≤ 18446744073709551616 := by
            have : (l.take (k + 1)).length ≤ 8 := by rw [List.length_take]; omega
            exact Nat.le_trans (Nat.pow_le_pow_right (by omega) this) (by decide)
          have HL := u64_lay (beNat (l.take k)) l[k].toNat (by have := HB.out; omega) l[k].toNat_lt
          have HL2 : Hid (bits BinOp.or IntKind.u64 (IntKind.u64.wrap ((beNat (l.take k) : Nat) * 256)) (IntKind.u64.wrap (l[k].toNat : Int)) = ((beNat (l.take k) * 256 + l[k].toNat : Nat) : Int)) := HL
          clear HL hlt hle
          go_wp2
          go_roundw
          case rel =>
            refine ⟨k + 1, by omega, by go_num, ?_, by first | rfl | trivial⟩
            rw [HB.out, ← HL2.out]
            have hs2 : k < s.data.toList.length := by simp at hsz ⊢; omega
            have e : s[k] = l[k] := by
              have h1 : s.data.toList[k]? = some s[k] := by rw [List.getElem?_eq_getElem hs2]; rfl
              rw [hsk] at h1; exact (Option.some.inj h1).symm
            rw [e]
          case measure => simp [intOf]; omega
        · obtain rfl : k = n := by omega
          go_wp2
          try rw [Exit.noGoto_ret]
          go_ret2
          exact ⟨hb, by rw [if_pos hn]; exact ⟨rfl, hr'⟩⟩
      · obtain rfl : k = n := by omega
        go_wp2
        try rw [Exit.noGoto_ret]
        go_ret2
        exact ⟨hb, by rw [if_pos hn]; exact ⟨rfl, hr'⟩⟩
  · rw [if_neg hn] at hp
    obtain ⟨rfl, rfl⟩ := hp
    go_wp2
    try rw [Exit.noGoto_ret]
    go_ret2
    exact ⟨Below.refl _ _, by rw [if_neg hn]; exact ⟨rfl, rfl⟩⟩
end Go.Proofs.YtipehnojibdfeaaGreat
