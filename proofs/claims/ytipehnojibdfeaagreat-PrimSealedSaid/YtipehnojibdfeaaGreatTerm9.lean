/- the table of terms: fits, Make. -/
import Derived.Test.YtipehnojibdfeaaGreatTerm8
namespace Go.Proofs.YtipehnojibdfeaaGreat
open Go Go.Proofs Go.RowKit

set_option maxRecDepth 100000 in
theorem mostOne_any (w : World) (s : ByteArray) : Calls Tryz.prog 140 #[.string s] w fun e w' => e = .returned (.bool (decide (65536 < s.size))) ∧ w' = w := by
  go_enter Tryz.func140, Tryz.ntmps140
  go_wp2_with fail
  go_ret
  exact ⟨by simp; omega, rfl⟩

def mostL (ss : List ByteArray) : Bool := ss.any fun s => decide (65536 < s.size)
def MostPost (ss : List ByteArray) (w : World) (e : Ending) (w' : World) : Prop := w' = w ∧ ∃ i : Int, e = .returned (.int .i64 i) ∧ (0 ≤ i ↔ mostL ss = true)

set_option maxRecDepth 100000 in
set_option maxHeartbeats 2000000 in
theorem mostIndex_any (w : World) (ss : List ByteArray) (pa : Option Addr) (n c B : Nat) (hp : Reads w B 1 pa n (ss.map .string)) (hn : n ≤ 100000000000000) :
    Calls Tryz.prog 40 #[.slice pa n c, .func (.func 140) #[] #[]] w (MostPost ss w) := by
  have hl : ss.length = n := by have := hp.1; simpa using this
  have HL : Hid (ss.length = n) := hl
  clear hl
  go_enter Tryz.func40, Tryz.ntmps40
  go_wp2_with fail
  go_loopw [8] (fun i wr => ∃ k : Nat, k ≤ n ∧ i = .int .i64 k ∧ mostL (ss.take k) = false ∧ wr = w) (fun i _ => n - (intOf i).toNat)
  case atStart => exact ⟨0, by omega, rfl, by simp [mostL], rfl⟩
  case round =>
    obtain ⟨k, hk, rfl, hno, rfl⟩ := hrel
    by_cases hkn : k < n
    · have hkd : decide ((k : Int) < (n : Int)) = true := by simp; omega
      obtain ⟨bk, o, hA, hbk, hcell⟩ := hp.addr (by omega)
      subst hA
      have hks : k < ss.length := by have := HL.out; omega
      obtain ⟨s, hs⟩ : ∃ s, s = ss[k] := ⟨_, rfl⟩
      have hc := hcell k (.string s) (by rw [hs]; simp [hks])
      have htake : mostL (ss.take (k + 1)) = decide (65536 < s.size) := by
        rw [mostL, List.take_add_one]
        rw [mostL] at hno
        rw [List.any_append, hno]
        simp [hks, hs]
      have HT : Hid (mostL (ss.take (k + 1)) = decide (65536 < s.size)) := htake
      have HSUB : Hid (mostL (ss.take (k + 1)) = true → mostL ss = true) := fun h => by
        rw [mostL, List.any_eq_true] at h ⊢
        obtain ⟨x, hx, hx2⟩ := h
        exact ⟨x, List.mem_of_mem_take hx, hx2⟩
      clear hcell hp hs htake hno
      obtain ⟨bb, hbb⟩ : ∃ bb, bb = decide (65536 < s.size) := ⟨_, rfl⟩
      have hcall := fun W => mostOne_any W s
      rw [← hbb] at hcall
      have HT2 : Hid (mostL (ss.take (k + 1)) = bb) := HT.trans hbb.symm
      clear hbb HT
      cases bb
      · go_wp2_with fail
        refine (hcall _).mono ?_
        rintro e w' ⟨rfl, rfl⟩
        go_wp2
        go_roundw
        case rel => exact ⟨k + 1, by omega, by go_num, HT2.out, by first | rfl | trivial⟩
        case measure => simp [intOf]; omega
      · go_wp2_with fail
        refine (hcall _).mono ?_
        rintro e w' ⟨rfl, rfl⟩
        have hfin : mostL ss = true := HSUB.out HT2.out
        go_wp2
        go_ret
        exact ⟨rfl, _, rfl, by simp [hfin]⟩
    · have hkd : decide ((k : Int) < (n : Int)) = false := by simp; omega
      have hfin : mostL ss = false := by
        have e : ss.take k = ss := List.take_of_length_le (by have := HL.out; omega)
        rw [← e]; exact hno
      go_wp2
      go_ret
      exact ⟨rfl, _, rfl, by simp [hfin]⟩

set_option maxRecDepth 100000 in
theorem mostContains_any (w : World) (ss : List ByteArray) (pa : Option Addr) (n c B : Nat) (hp : Reads w B 1 pa n (ss.map .string)) (hn : n ≤ 100000000000000) :
    Calls Tryz.prog 37 #[.slice pa n c, .func (.func 140) #[] #[]] w fun e w' => e = .returned (.bool (mostL ss)) ∧ w' = w := by
  have h := mostIndex_any w ss pa n c B hp hn
  go_enter Tryz.func37, Tryz.ntmps37
  go_wp2_with fail
  refine h.mono ?_
  rintro e w' ⟨rfl, i, rfl, hi⟩
  have hd : decide (0 ≤ i) = mostL ss := by
    cases hb : mostL ss
    · simp [hb] at hi ⊢; exact hi
    · simp [hb] at hi ⊢; exact hi
  clear h hi
  go_wp2
  go_ret
  exact ⟨by simp [hd], rfl⟩

set_option maxRecDepth 100000 in
set_option maxHeartbeats 4000000 in
theorem fits_any (w : World) (base t M : Nat) (T T' : List Node) (names : Nat) (hT : TableAt w base t M T names) (n : Nat) (hlen' : T'.length ≤ 65536) (ck cl cp ct : Nat)
    (hdo : Calls Tryz.prog 142 #[.pointer (some ⟨ck, 0, none⟩), .pointer (some ⟨cl, 0, none⟩), .pointer (some ⟨cp, 0, none⟩), .pointer (some ⟨ct, 0, none⟩)] w fun e w' => e = .returned (.int .i64 (n : Int)) ∧ TableAt w' base t w'.heap.size T' names ∧ TF base w w') :
    Calls Tryz.prog 141 #[.pointer (some ⟨t, 0, none⟩), .func (.func 142) #[] #[.pointer (some ⟨ck, 0, none⟩), .pointer (some ⟨cl, 0, none⟩), .pointer (some ⟨cp, 0, none⟩), .pointer (some ⟨ct, 0, none⟩)]] w fun e w' => e = .returned (.tuple #[.int .i64 (n : Int), .bool true]) ∧ TableAt w' base t w'.heap.size T' names ∧ TF base w w' := by
  obtain ⟨lv, xs, m, D, a1, a2, _⟩ := hT
  obtain ⟨A, c, hlv⟩ := ownsRow_slice a2
  subst hlv
  have C0 : w.cell? ⟨t, 0, none⟩ = some (.slice A T.length c) := a1.cell 0
  clear a1 a2
  go_enter Tryz.func141, Tryz.ntmps141
  go_wp2_with fail
  refine hdo.mono ?_
  rintro e w1 ⟨rfl, hT1, q1⟩
  clear hdo
  have hT1' := hT1
  obtain ⟨lv, xs, m, D, a1, a2, _⟩ := hT1
  obtain ⟨A', c', hlv⟩ := ownsRow_slice a2
  subst hlv
  have C1 : w1.cell? ⟨t, 0, none⟩ = some (.slice A' T'.length c') := a1.cell 0
  have hkd : decide ((T'.length : Int) ≤ 65536) = true := by rw [decide_eq_true_iff]; omega
  clear a1 a2
  go_wp2
  go_ret2
  exact ⟨rfl, hT1', q1⟩

theorem readsStr {w : World} {A : Option Addr} {n : Nat} {ss : List (List UInt8)} (h : StrRow w A ss) (hn : n = ss.length) : Reads w w.heap.size 1 A n (ss.map fun s => .string (bs s)) := by
  refine ⟨by simp [hn], fun h0 => ?_⟩
  rcases h with h | ⟨g, cs, mk, e1, e2, e3⟩
  · rw [h] at hn; simp at hn; omega
  · refine ⟨_, e1, (Array.getElem?_eq_some_iff.1 e2).1, fun j u hj => ?_⟩
    rw [List.getElem?_map] at hj
    cases hs : ss[j]? with
    | none => rw [hs] at hj; simp at hj
    | some s =>
      rw [hs] at hj
      simp at hj
      subst hj
      rw [addr_add, Nat.zero_add]
      exact (cell_of_row w g j cs 9 mk e2).trans (e3 j s hs)
set_option maxRecDepth 100000 in
set_option maxHeartbeats 4000000 in
theorem make_any (w : World) (base t M : Nat) (T : List Node) (names : Nat) (hT : TableAt w base t M T names) (hM : M ≤ w.heap.size) (hb : base ≤ w.heap.size) (hlen : T.length ≤ 60000) (kind : Nat) (hkind : kind < 256) (ss : List (List UInt8)) (hss : ss.length ≤ 1000) (hk6 : kind = 6 → ss.length = 4) (hk3 : kind = 3 → ss.length = 1) (hk4 : kind = 4 → ∃ a b q n2 l2, (partsN T [] ss).2 = [a, b] ∧ (partsN T [] ss).1[b]? = some (.made 3 n2 l2 [q]) ∧ q ≤ 65536) (hsl : ∀ s ∈ ss, s.length ≤ 65536) (A : Option Addr) (c : Nat)
    (hA : StrRow w A ss) (hright : ∀ W, Calls Tryz.prog 139 #[.int .i64 (kind : Int), .int .i64 (ss.length : Int)] W fun e w' => e = .returned (.bool true) ∧ w' = W) :
    Calls Tryz.prog 132 #[.pointer (some ⟨t, 0, none⟩), .int .i64 (kind : Int), .string ⟨#[]⟩, .slice A ss.length c] w fun e w' => e = .returned (.tuple #[.string (bs (textL (makeN T kind [] ss).2)), .int .i64 0]) ∧ TableAt w' base t w'.heap.size (makeN T kind [] ss).1 names ∧ TF base w w' := by
  obtain ⟨w1, hw1⟩ : ∃ w1, w1 = (((w.alloc (.cells #[.pointer (some ⟨t, 0, none⟩)] 54)).alloc (.cells #[.int .i64 (kind : Int)] 3)).alloc (.cells #[.string ⟨#[]⟩] 9)).alloc (.cells #[.slice A ss.length c] 38) := ⟨_, rfl⟩
  have b1 : Below w.heap.size w w1 := by rw [hw1]; exact ((((Below.refl _ _).alloc (Nat.le_refl _) _).alloc (by simp) _).alloc (by simp; omega) _).alloc (by simp; omega) _
  have B0 : Blk w1 w.heap.size 54 #[.pointer (some ⟨t, 0, none⟩)] := by rw [hw1]; exact (((Blk.new w _ _).alloc _).alloc _).alloc _
  have B1 : Blk w1 (w.heap.size + 1) 3 #[.int .i64 (kind : Int)] := by
    have h := Blk.new (w.alloc (.cells #[.pointer (some ⟨t, 0, none⟩)] 54)) 3 #[.int .i64 (kind : Int)]
    rw [World.size_alloc] at h
    rw [hw1]; exact (h.alloc _).alloc _
  have B2 : Blk w1 (w.heap.size + 2) 9 #[.string ⟨#[]⟩] := by
    have h := Blk.new ((w.alloc (.cells #[.pointer (some ⟨t, 0, none⟩)] 54)).alloc (.cells #[.int .i64 (kind : Int)] 3)) 9 #[.string ⟨#[]⟩]
    rw [World.size_alloc, World.size_alloc] at h
    rw [hw1]; exact h.alloc _
  have B3 : Blk w1 (w.heap.size + 3) 38 #[.slice A ss.length c] := by
    have h := Blk.new (((w.alloc (.cells #[.pointer (some ⟨t, 0, none⟩)] 54)).alloc (.cells #[.int .i64 (kind : Int)] 3)).alloc (.cells #[.string ⟨#[]⟩] 9)) 38 #[.slice A ss.length c]
    rw [World.size_alloc, World.size_alloc, World.size_alloc] at h
    rw [hw1]; exact h
  have hT1 := (hT.later b1).mono (Nat.le_trans hM b1.size)
  have hA1 := hA.far_ (Q := fun _ => True) (Far.of_below b1) (fun _ _ => trivial)
  have hnone := termNone_any w1 base t w1.heap.size T names hT1
  have hmost := mostContains_any w1 (ss.map bs) A ss.length c w1.heap.size (by rw [List.map_map]; exact readsStr hA1 rfl) (by omega)
  have hml : mostL (ss.map bs) = false := by
    unfold mostL
    rw [List.any_map, List.any_eq_false]
    intro s hs
    have := hsl s hs
    simp [Function.comp, bs_size]; omega
  rw [hml] at hmost
  have hmk2 := make2_loop w1 base t T names hT1 (Nat.le_trans hb b1.size) hlen kind hkind [] (by simp) ss hss hk6 hk3 hk4 hsl (w.heap.size + 1) (w.heap.size + 2) (w.heap.size + 3) w.heap.size A c hA1 B1 B2 B3 B0
  have hlm : (makeN T kind [] ss).1.length ≤ 65536 := by
    have h1 := (partsN_length ss T []).1
    have h2 := (putN_length (partsN T [] ss).1 (madeN (partsN T [] ss).1 kind [] (partsN T [] ss).2)).1
    show (putN (partsN T [] ss).1 (madeN (partsN T [] ss).1 kind [] (partsN T [] ss).2)).1.length ≤ _
    omega
  have hln : (makeN T kind [] ss).2 ≤ 65536 := by
    have h1 := (partsN_length ss T []).1
    have h2 := (putN_length (partsN T [] ss).1 (madeN (partsN T [] ss).1 kind [] (partsN T [] ss).2)).2
    show (putN (partsN T [] ss).1 (madeN (partsN T [] ss).1 kind [] (partsN T [] ss).2)).2 ≤ _
    omega
  obtain ⟨n, hn⟩ : ∃ n, n = (makeN T kind [] ss).2 := ⟨_, rfl⟩
  obtain ⟨T', hT'⟩ : ∃ T', T' = (makeN T kind [] ss).1 := ⟨_, rfl⟩
  rw [← hn, ← hT'] at hmk2
  rw [← hn] at hln
  rw [← hT'] at hlm
  have hfit := fits_any w1 base t w1.heap.size T T' names hT1 n hlm _ _ _ _ hmk2
  rw [← hn, ← hT']
  have L0 : w1.cell? ⟨w.heap.size, 0, none⟩ = some (.pointer (some ⟨t, 0, none⟩)) := B0.cell 0
  have L1 : w1.cell? ⟨w.heap.size + 1, 0, none⟩ = some (.int .i64 (kind : Int)) := B1.cell 0
  have L2 : w1.cell? ⟨w.heap.size + 2, 0, none⟩ = some (.string ⟨#[]⟩) := B2.cell 0
  have L3 : w1.cell? ⟨w.heap.size + 3, 0, none⟩ = some (.slice A ss.length c) := B3.cell 0
  have HW1 : Hid (w1 = (((w.alloc (.cells #[.pointer (some ⟨t, 0, none⟩)] 54)).alloc (.cells #[.int .i64 (kind : Int)] 3)).alloc (.cells #[.string ⟨#[]⟩] 9)).alloc (.cells #[.slice A ss.length c] 38)) := hw1
  have L0' : ((((w.alloc (.cells #[.pointer (some ⟨t, 0, none⟩)] 54)).alloc (.cells #[.int .i64 (kind : Int)] 3)).alloc (.cells #[.string ⟨#[]⟩] 9)).alloc (.cells #[.slice A ss.length c] 38)).cell? ⟨w.heap.size, 0, none⟩ = some (.pointer (some ⟨t, 0, none⟩)) := by rw [← hw1]; exact L0
  clear hw1 hT hT1 hA hA1 B0 B1 B2 B3 hmk2 hml hn hT'
  go_enter Tryz.func132, Tryz.ntmps132
  go_wp2_with fail
  rw [← HW1.out]
  refine hnone.mono ?_
  rintro e w' ⟨rfl, hw⟩
  rw [hw]
  clear hw w' hnone HW1 L0'
  go_wp2_with fail
  refine (hright _).mono ?_
  rintro e w' ⟨rfl, hw⟩
  rw [hw]
  clear hw w' hright
  go_wp2_with fail
  refine hmost.mono ?_
  rintro e w' ⟨rfl, hw⟩
  rw [hw]
  clear hw w' hmost
  go_wp2_with fail
  refine hfit.mono ?_
  rintro e w2 ⟨rfl, hT2, q2⟩
  clear hfit L0 L1 L2 L3
  have htx := text_any w2 n hln
  go_wp2_with fail
  refine htx.mono ?_
  rintro e w3 ⟨rfl, b3⟩
  clear htx
  go_wp2
  go_ret2
  exact ⟨rfl, (hT2.later b3).mono b3.size, ((TF.of_below b1 hb).trans q2).trans (TF.of_below b3 (Nat.le_trans hb (Nat.le_trans b1.size q2.1.size)))⟩
end Go.Proofs.YtipehnojibdfeaaGreat
