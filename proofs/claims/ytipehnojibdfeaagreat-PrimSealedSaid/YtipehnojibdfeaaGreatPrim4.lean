/- prim's long: is one of the texts too long? -/
import Derived.Test.YtipehnojibdfeaaGreatPrim3
namespace Go.Proofs.YtipehnojibdfeaaGreat
open Go Go.Proofs Go.RowKit

theorem longOne_any (w : World) (s : ByteArray) : Calls Tryz.prog 38 #[.string s] w fun e w' => e = .returned (.bool (decide (16384 < s.size))) ∧ w' = w := by
  go_enter Tryz.func38, Tryz.ntmps38
  go_wp2_with fail
  go_ret
  exact ⟨by simp; omega, rfl⟩

def longL (ss : List ByteArray) : Bool := ss.any fun s => decide (16384 < s.size)
def IndexPost (ss : List ByteArray) (w : World) (e : Ending) (w' : World) : Prop := w' = w ∧ ∃ i : Int, e = .returned (.int .i64 i) ∧ (0 ≤ i ↔ longL ss = true)

set_option maxHeartbeats 2000000 in
theorem longIndex_any (w : World) (ss : List ByteArray) (pa : Option Addr) (n c B : Nat) (hp : Reads w B 1 pa n (ss.map .string)) (hn : n ≤ 100000000000000) :
    Calls Tryz.prog 40 #[.slice pa n c, .func (.func 38) #[] #[]] w (IndexPost ss w) := by
  have hl : ss.length = n := by have := hp.1; simpa using this
  have HL : Hid (ss.length = n) := hl
  clear hl
  go_enter Tryz.func40, Tryz.ntmps40
  go_wp2_with fail
  go_loopw [8] (fun i wr => ∃ k : Nat, k ≤ n ∧ i = .int .i64 k ∧ longL (ss.take k) = false ∧ wr = w) (fun i _ => n - (intOf i).toNat)
  case atStart => exact ⟨0, by omega, rfl, by simp [longL], rfl⟩
  case round =>
    obtain ⟨k, hk, rfl, hno, rfl⟩ := hrel
    by_cases hkn : k < n
    · have hkd : decide ((k : Int) < (n : Int)) = true := by simp; omega
      obtain ⟨bk, o, hA, hbk, hcell⟩ := hp.addr (by omega)
      subst hA
      have hks : k < ss.length := by have := HL.out; omega
      obtain ⟨s, hs⟩ : ∃ s, s = ss[k] := ⟨_, rfl⟩
      have hc := hcell k (.string s) (by rw [hs]; simp [hks])
      have htake : longL (ss.take (k + 1)) = decide (16384 < s.size) := by
        rw [longL, List.take_add_one]
        rw [longL] at hno
        rw [List.any_append, hno]
        simp [hks, hs]
      have HT : Hid (longL (ss.take (k + 1)) = decide (16384 < s.size)) := htake
      have HSUB : Hid (longL (ss.take (k + 1)) = true → longL ss = true) := fun h => by
        rw [longL, List.any_eq_true] at h ⊢
        obtain ⟨x, hx, hx2⟩ := h
        exact ⟨x, List.mem_of_mem_take hx, hx2⟩
      clear hcell hp hs htake hno
      obtain ⟨bb, hbb⟩ : ∃ bb, bb = decide (16384 < s.size) := ⟨_, rfl⟩
      have hcall := fun W => longOne_any W s
      rw [← hbb] at hcall
      have HT2 : Hid (longL (ss.take (k + 1)) = bb) := HT.trans hbb.symm
      clear hbb HT
      cases bb
      · go_wp2_with fail
        refine (hcall _).mono ?_
        rintro e w' ⟨rfl, rfl⟩
        go_wp2
        go_roundw
        case rel => exact ⟨k + 1, by omega, by go_num, HT2.out, by first | rfl | trivial⟩
        case measure => simp [intOf]; omega
      · go_wp2_with fail
        refine (hcall _).mono ?_
        rintro e w' ⟨rfl, rfl⟩
        have hfin : longL ss = true := HSUB.out HT2.out
        go_wp2
        go_ret
        exact ⟨rfl, _, rfl, by simp [hfin]⟩
    · have hkd : decide ((k : Int) < (n : Int)) = false := by simp; omega
      have hfin : longL ss = false := by
        have e : ss.take k = ss := List.take_of_length_le (by have := HL.out; omega)
        rw [← e]; exact hno
      go_wp2
      go_ret
      exact ⟨rfl, _, rfl, by simp [hfin]⟩

theorem longContains_any (w : World) (ss : List ByteArray) (pa : Option Addr) (n c B : Nat) (hp : Reads w B 1 pa n (ss.map .string)) (hn : n ≤ 100000000000000) :
    Calls Tryz.prog 37 #[.slice pa n c, .func (.func 38) #[] #[]] w fun e w' => e = .returned (.bool (longL ss)) ∧ w' = w := by
  have h := longIndex_any w ss pa n c B hp hn
  go_enter Tryz.func37, Tryz.ntmps37
  go_wp2_with fail
  refine h.mono ?_
  rintro e w' ⟨rfl, i, rfl, hi⟩
  have hd : decide (0 ≤ i) = longL ss := by
    cases hb : longL ss
    · simp [hb] at hi ⊢; exact hi
    · simp [hb] at hi ⊢; exact hi
  clear h hi
  go_wp2
  go_ret
  exact ⟨by simp [hd], rfl⟩
theorem long_any (w : World) (ss : List ByteArray) (pa : Option Addr) (n c B : Nat) (hp : Reads w B 1 pa n (ss.map .string)) (hn : n ≤ 100000000000000) :
    Calls Tryz.prog 28 #[.slice pa n c] w fun e w' => e = .returned (.bool (longL ss)) ∧ w' = w := by
  have h := longContains_any w ss pa n c B hp hn
  go_enter Tryz.func28, Tryz.ntmps28
  go_wp2_with fail
  refine h.mono ?_
  rintro e w' ⟨rfl, rfl⟩
  go_wp2
  go_ret
  exact ⟨rfl, rfl⟩
end Go.Proofs.YtipehnojibdfeaaGreat
