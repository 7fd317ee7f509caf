/- the table of terms: number. -/
import Derived.Test.YtipehnojibdfeaaGreatTerm4
import Derived.Test.YtipehnojibdfeaaGreatShelf
namespace Go.Proofs.YtipehnojibdfeaaGreat
open Go Go.Proofs Go.RowKit

def numI (len : Nat) (s : List UInt8) : Int := match numOf len s with | some n => (n : Int) | none => -1
set_option maxRecDepth 100000 in
set_option maxHeartbeats 2000000 in
theorem termNumber_any (w : World) (base t M : Nat) (T : List Node) (k : Nat) (hT : TableAt w base t M T k) (hlen : T.length ≤ 100000) (s : ByteArray) (hs : s.size ≤ 9223372036854775807) : Calls Tryz.prog 145 #[.pointer (some ⟨t, 0, none⟩), .string s] w fun e w' => e = .returned (.int .i64 (numI T.length s.data.toList)) ∧ Below w.heap.size w w' := by
  have hsl : s.data.toList.length = s.size := rfl
  have hpre := Tryz.strings_HasPrefix s ⟨#[240, 84, 82, 77]⟩ w
  by_cases h8 : s.size = 8
  · by_cases hm : s.data.toList.take 4 = markL
    · have hP : Lib.hasPrefix s.data.toList [240, 84, 82, 77] = true := by rw [← Lib.hasPrefix_of_take]; simp [markL] at hm ⊢; exact ⟨by omega, hm⟩
      have hp' : Calls Tryz.prog 148 #[.string s, .string ⟨#[240, 84, 82, 77]⟩] w fun e w' => e = .returned (.bool true) ∧ w' = w := hpre.mono (fun e w' h => ⟨h.1.trans (by rw [← hP]), h.2⟩)
      have hsz : ((s.size : Int) != 8) = false := by rw [bne_eq_false_iff_eq]; omega
      have hnew := new_any w (s.extract 4 8)
      obtain ⟨d, hd⟩ : ∃ d, d = s.data.toList.drop 4 := ⟨_, rfl⟩
      have hex : s.extract 4 8 = bs d := by rw [hd, ← h8]; exact bs_drop s.data.toList 4 _ rfl
      have hdl : d.length = 4 := by rw [hd, List.length_drop, hsl, h8]
      rw [hex] at hnew
      have HNUM : Hid (numI T.length s.data.toList = if beNat d < T.length then (beNat d : Int) else -1) := by
        show numI T.length s.data.toList = _
        unfold numI numOf
        rw [← hd]
        by_cases hlt : beNat d < T.length
        · rw [if_pos ⟨hsl.trans h8, hm, hlt⟩, if_pos hlt]
        · rw [if_neg (fun h => hlt h.2.2), if_neg hlt]
      have HEX : Hid (s.extract 4 8 = bs d) := hex
      clear hpre hm hP hd hex hsl
      go_enter Tryz.func145, Tryz.ntmps145
      go_wp2_with fail
      refine hp'.mono ?_
      rintro e w' ⟨rfl, hw⟩
      rw [hw]
      clear hw w' hp'
      go_wp2_with fail
      rw [HEX.out]
      refine hnew.mono ?_
      rintro e w1 ⟨r, rfl, hr, hrd, b1⟩
      have hnum := number_any w1 r 4 d hrd (by omega) (by omega)
      clear hnew


      go_wp2_with fail
      refine hnum.mono ?_
      rintro e w2 ⟨b2, hp⟩
      rw [if_pos (by omega)] at hp
      obtain ⟨rfl, _⟩ := hp
      have htk : d.take 4 = d := List.take_of_length_le (by omega)
      rw [htk]
      have b3 : Below w.heap.size w w2 := b1.trans (b2.mono hr)
      have hbe : beNat d < 4294967296 := by have := beNat_lt d; rw [hdl] at this; exact this
      have hL := termLen_any w2 base t M T k (hT.later b3)
      clear hnum
      by_cases hlt : beNat d < T.length
      · have HN2 : Hid (numI T.length s.data.toList = (beNat d : Int)) := HNUM.out.trans (if_pos hlt)
        have hcmp : decide ((T.length : Int) ≤ (beNat d : Int)) = false := by simp; omega
        go_wp2_with fail
        refine hL.mono ?_
        rintro e w' ⟨rfl, hw⟩
        rw [hw]
        clear hw w' hL
        go_wp2
        go_ret
        exact ⟨by rw [HN2.out]; rfl, b3⟩
      · have HN2 : Hid (numI T.length s.data.toList = -1) := HNUM.out.trans (if_neg hlt)
        have hcmp : decide ((T.length : Int) ≤ (beNat d : Int)) = true := by simp; omega
        go_wp2_with fail
        refine hL.mono ?_
        rintro e w' ⟨rfl, hw⟩
        rw [hw]
        clear hw w' hL
        go_wp2
        go_ret
        exact ⟨by rw [HN2.out]; rfl, b3⟩
    · have hP : Lib.hasPrefix s.data.toList [240, 84, 82, 77] = false := by
        rw [← Lib.hasPrefix_of_take]
        simp [markL] at hm ⊢
        exact fun _ => hm
      have hp' : Calls Tryz.prog 148 #[.string s, .string ⟨#[240, 84, 82, 77]⟩] w fun e w' => e = .returned (.bool false) ∧ w' = w := hpre.mono (fun e w' h => ⟨h.1.trans (by rw [← hP]), h.2⟩)
      have hsz : ((s.size : Int) != 8) = false := by rw [bne_eq_false_iff_eq]; omega
      have HN : Hid (numI T.length s.data.toList = -1) := by
        show numI T.length s.data.toList = _
        unfold numI; rw [numOf_unlike (fun h => hm h.2)]
      clear hpre hm hP hsl
      go_enter Tryz.func145, Tryz.ntmps145
      go_wp2_with fail
      refine hp'.mono ?_
      rintro e w' ⟨rfl, hw⟩
      rw [hw]
      clear hw w' hp'
      go_wp2
      go_ret
      exact ⟨by rw [HN.out]; rfl, Below.refl _ _⟩
  · have hsz : ((s.size : Int) != 8) = true := by rw [bne_iff_ne]; omega
    have HN : Hid (numI T.length s.data.toList = -1) := by
      show numI T.length s.data.toList = _
      unfold numI; rw [numOf_unlike (fun h => h8 (hsl.symm.trans h.1))]
    clear hpre hsl
    go_enter Tryz.func145, Tryz.ntmps145
    go_wp2_with fail
    go_ret
    exact ⟨by rw [HN.out]; rfl, Below.refl _ _⟩
end Go.Proofs.YtipehnojibdfeaaGreat
