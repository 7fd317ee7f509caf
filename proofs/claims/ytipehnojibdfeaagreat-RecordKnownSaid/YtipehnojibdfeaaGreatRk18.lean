/-
  RecordKnown: the law returns true. No condition.
-/
import Derived.Test.YtipehnojibdfeaaGreatRows
import Derived.Test.YtipehnojibdfeaaGreatRk9
import Derived.ProofKit
import Derived.OpenShut
import Derived.ShutString
import Derived.ChangeOld
import Derived.Below
import Derived.SizedLaws
import Derived.Test.YtipehnojibdfeaaGreatRk17

/- What the rows share: the builder that hands on the start's shape, the tables' words, arguments' forms. -/
namespace Go.Proofs.YtipehnojibdfeaaGreat
open Go Go.Proofs Go.RowKit Go.ChangeShapes Go.WideShapes Go.ChangeAt

section
variable {H : Type} {enc : TypeId × Value → H}
/-- the row's builder, with what the machine's start says of the package's variables -/
theorem returnsInHanded_of_change_shaped {a : Assume} {C : Checked} {os : Os} {f : FuncId} {fn : Func} {s : ChangeSpec} {conds : List PathCond} {apart fresh handsOn again : Bool}
    (own : ownKnob C.prog.godebug = none) (started : os.Started) (noInit : C.prog.inits.idxOf? f = none) (hfn : C.prog.funcs[f]? = some fn)
    (witness : ∃ (w : World) (tape : Tape) (i : Input), w.os = os ∧ (w.forCall tape i).Shaped C.prog ∧ i.vars = [] ∧ Input.okWide C.prog (w.forCall tape i) .any w.heap.size f i ∧
      s.pre6 enc C.prog fn conds apart (w.forCall tape i).memory i.args ∧ a.holds C.prog (lone (Frame.enter C.prog f i.args .normal) [] (w.forCall tape i)))
    (contract : ∀ (W : World) (base : Nat) (args : Array Value) (ds gs : List (DataW H)) (before : List MemPlace),
      W.ShapedOpen C.prog →
      (∀ (j : Nat) t v, fn.params[j]? = some t → args[j]? = some v → Value.okWide C.prog W .any base t v) →
      DataW.Whole enc C.prog fn.params.toList s.vars apart W args.toList ds gs before →
      Calls C.prog f args W fun e W' => ∃ v, e = .returned v ∧ s.post enc C.prog fn apart fresh handsOn again W args v W') :
    ReturnsInHanded a C os f .any (s.pre6 enc C.prog fn conds apart) (s.post enc C.prog fn apart fresh handsOn again) := by
  refine returnsInHanded_of_calls own started noInit witness ?_
  intro w tape i _ hsh _ hok hpre _
  obtain ⟨_, _, _, fn', hfn', _, _, _, _, hval⟩ := hok
  have e : fn' = fn := Option.some.inj (hfn'.symm.trans hfn)
  subst e
  obtain ⟨⟨ds, gs, before, hw, _⟩, _⟩ := hpre
  have hw' := DataW.Whole.of_heap (w' := w.forCall tape i) (by rfl) hw
  refine (contract (w.forCall tape i) w.heap.size i.args ds gs before hsh hval hw').mono fun e W' ⟨v, he, hp⟩ => ?_
  subst he
  exact ChangeSpec.post_blind hp
end

def intAt (cs : Array Value) (i : Nat) : Int := match cs[i]? with | some (.int _ n) => n | _ => 0
theorem firstShape : (((begin Tryz.prog (fun _ _ => 0) default).world.heap[0]?).bind Obj.row?).map (fun x => (x.1.size, Tryz.prog.buildable x.2, Tryz.prog.cellTypes Tryz.prog.depth x.2)) = some (8, true, some (List.replicate 8 42)) := by kernel_rfl
theorem kShape : (((begin Tryz.prog (fun _ _ => 0) default).world.heap[1]?).bind Obj.row?).map (fun x => (x.1.size, Tryz.prog.buildable x.2, Tryz.prog.cellTypes Tryz.prog.depth x.2)) = some (80, true, some (List.replicate 80 42)) := by kernel_rfl
theorem u64_has {x : Int} (h : IntKind.u64.has x) : 0 ≤ x ∧ x < 18446744073709551616 := by
  have h1 := h.1
  have h2 := h.2
  have e1 : IntKind.u64.min = 0 := by decide
  have e2 : IntKind.u64.max = 18446744073709551615 := by decide
  rw [e1] at h1
  rw [e2] at h2
  omega
set_option maxRecDepth 100000 in
theorem words_of_shaped {W : World} (h : W.ShapedOpen Tryz.prog) (g n : Nat) (hn : 0 < n) (hg : g < Tryz.prog.globals.size) (hs : (((begin Tryz.prog (fun _ _ => 0) default).world.heap[g]?).bind Obj.row?).map (fun x => (x.1.size, Tryz.prog.buildable x.2, Tryz.prog.cellTypes Tryz.prog.depth x.2)) = some (n, true, some (List.replicate n 42))) :
    ∃ F : Nat → Int, ∀ i, i < n → W.cell? ⟨g, i, none⟩ = some (.int .u64 (F i)) ∧ 0 ≤ F i ∧ F i < 18446744073709551616 := by
  cases hr : ((begin Tryz.prog (fun _ _ => 0) default).world.heap[g]?).bind Obj.row? with
  | none => rw [hr] at hs; simp at hs
  | some z =>
    obtain ⟨zero, t⟩ := z
    rw [hr] at hs
    simp only [Option.map_some, Option.some.injEq, Prod.mk.injEq] at hs
    obtain ⟨hz, hbd, hct⟩ := hs
    obtain ⟨cs, hcs, hsz, hok⟩ := h.1 g zero t hg hr
    obtain ⟨ts, hts, _, hcell⟩ := hok hbd
    rw [hct] at hts
    cases hts
    refine ⟨intAt cs, fun i hi => ?_⟩
    have hil : i < cs.size := by omega
    obtain ⟨u, hu, hc⟩ := hcell i cs[i] (Array.getElem?_eq_getElem hil)
    have hu2 : u = 42 := by
      rw [List.length_replicate, Nat.mod_eq_of_lt hi, List.getElem?_replicate, if_pos hi] at hu
      exact (Option.some.inj hu).symm
    subst hu2
    unfold Cell.ok at hc
    rw [Tryz.underlying42] at hc
    have hb : Blk W g t cs := hcs
    cases hv : cs[i] <;> rw [hv] at hc <;> simp only at hc <;> try exact hc.elim
    obtain ⟨rfl, hh⟩ := hc
    rename_i x
    have hF : intAt cs i = x := by unfold intAt; rw [Array.getElem?_eq_getElem hil, hv]
    rw [hF]
    have hx := u64_has hh
    exact ⟨by rw [hb.cell i, Array.getElem?_eq_getElem hil, hv], hx.1, hx.2⟩
theorem tabs_of_shaped {W : World} (h : W.ShapedOpen Tryz.prog) : ∃ F K, Tabs W F K := by
  obtain ⟨F, hF⟩ := words_of_shaped h 0 8 (by omega) (of_decide_eq_true (by kernel_rfl)) firstShape
  obtain ⟨K, hK⟩ := words_of_shaped h 1 80 (by omega) (of_decide_eq_true (by kernel_rfl)) kShape
  exact ⟨F, K, hF, hK⟩

set_option maxRecDepth 100000 in
theorem cell_string {W : World} {r : Reach} {b : Nat} {v : Value} (h : Cell.okWide Tryz.prog W r b 9 v) : ∃ s : ByteArray, v = .string s ∧ s.size ≤ 9223372036854775807 := by
  unfold Cell.okWide Cell.ok at h
  rw [Tryz.underlying9] at h
  cases v <;> simp only at h <;> try exact h.elim
  refine ⟨_, rfl, ?_⟩
  have e : IntKind.i64.max = 9223372036854775807 := by decide
  rw [e] at h
  omega
set_option maxRecDepth 100000 in
theorem cell_u8 {W : World} {r : Reach} {b : Nat} {v : Value} (h : Cell.okWide Tryz.prog W r b 5 v) : ∃ n : Nat, v = .int .u8 (n : Int) ∧ n < 256 := by
  unfold Cell.okWide Cell.ok at h
  rw [Tryz.underlying5] at h
  cases v <;> simp only at h <;> try exact h.elim
  obtain ⟨rfl, hh⟩ := h
  rename_i x
  have h1 := hh.1
  have h2 := hh.2
  have e1 : IntKind.u8.min = 0 := by decide
  have e2 : IntKind.u8.max = 255 := by decide
  rw [e1] at h1
  rw [e2] at h2
  exact ⟨x.toNat, by congr 1; omega, by omega⟩
theorem own : ownKnob Tryz.prog.godebug = none := by kernel_rfl
theorem laidOut : laidOutB Tryz.prog = true := by kernel_rfl
set_option maxRecDepth 100000 in
theorem cell_int {W : World} {r : Reach} {b : Nat} {v : Value} (h : Cell.okWide Tryz.prog W r b 3 v) : ∃ n : Int, v = .int .i64 n ∧ -9223372036854775808 ≤ n ∧ n ≤ 9223372036854775807 := by
  unfold Cell.okWide Cell.ok at h
  rw [Tryz.underlying3] at h
  cases v <;> simp only at h <;> try exact h.elim
  obtain ⟨rfl, hh⟩ := h
  have h1 := hh.1
  have h2 := hh.2
  have e1 : IntKind.i64.min = -9223372036854775808 := by decide
  have e2 : IntKind.i64.max = 9223372036854775807 := by decide
  rw [e1] at h1
  rw [e2] at h2
  exact ⟨_, rfl, h1, h2⟩
set_option maxRecDepth 100000 in
theorem val_string {W : World} {r : Reach} {b : Nat} {v : Value} (h : Value.okWide Tryz.prog W r b 9 v) : Cell.okWide Tryz.prog W r b 9 v := by
  unfold Value.okWide at h; rw [Tryz.underlying9] at h; exact h
set_option maxRecDepth 100000 in
theorem val_int {W : World} {r : Reach} {b : Nat} {v : Value} (h : Value.okWide Tryz.prog W r b 3 v) : Cell.okWide Tryz.prog W r b 3 v := by
  unfold Value.okWide at h; rw [Tryz.underlying3] at h; exact h
set_option maxRecDepth 100000 in
theorem val_u8 {W : World} {r : Reach} {b : Nat} {v : Value} (h : Value.okWide Tryz.prog W r b 5 v) : Cell.okWide Tryz.prog W r b 5 v := by
  unfold Value.okWide at h; rw [Tryz.underlying5] at h; exact h
end Go.Proofs.YtipehnojibdfeaaGreat

namespace Go.Proofs.YtipehnojibdfeaaGreat
open Go Go.Proofs Go.RowKit Go.ChangeShapes Go.WideShapes Go.ChangeAt

set_option maxRecDepth 100000 in
set_option maxHeartbeats 8000000 in
theorem recordKnown_any (w : World) (F H : Nat → Int) (hT : Tabs w F H) : Calls Tryz.prog 5 #[] w fun e w' => e = .returned (.bool true) ∧ Below w.heap.size w w' := by
  go_enter Tryz.func5, Tryz.ntmps5
  go_wp2_with fail
  go_loopw [1] (fun i wr => ∃ k : Nat, k ≤ 2 ∧ i = .int .i64 k ∧ Below w.heap.size w wr) (fun i _ => 2 - (intOf i).toNat)
  case atStart => exact ⟨0, by omega, rfl, Below.refl _ _⟩
  case round =>
    obtain ⟨k, hk, rfl, hb⟩ := hrel
    by_cases h0 : k = 0
    · subst h0
      go_upto_block 1 with (fail)
      refine known_real wr F H (hT.later hb) _ ?_
      intros
      rename_i wL hL
      have hbL := hb.trans (hL.mono hb.size)
      go_wp2
      go_roundw
      case rel => exact ⟨1, by omega, by rfl, hbL⟩
      case measure => simp [intOf]
    · by_cases h1 : k = 1
      · subst h1
        go_upto_block 1 with (fail)
        refine known_term wr _ ?_
        intros
        rename_i wL hL
        have hbL := hb.trans (hL.mono hb.size)
        go_wp2
        go_roundw
        case rel => exact ⟨2, by omega, by rfl, hbL⟩
        case measure => simp [intOf]
      · obtain rfl : k = 2 := by omega
        have hs := nilSeal_any wr ⟨#[]⟩
        go_wp2_with fail
        refine hs.mono ?_
        rintro e w1 ⟨rfl, b1⟩
        clear hs
        have b := hb.trans (b1.mono hb.size)
        clear b1
        have hs := nilTake_any w1 ⟨#[]⟩
        go_wp2_with fail
        refine hs.mono ?_
        rintro e w' ⟨rfl, hw⟩
        rw [hw]
        clear hw w' hs
        have hs := nilOpen_any w1 ⟨#[]⟩ ⟨#[]⟩
        go_wp2_with fail
        refine hs.mono ?_
        rintro e w' ⟨rfl, hw⟩
        rw [hw]
        clear hw w' hs
        have hs := nilSent_any w1
        go_wp2_with fail
        refine hs.mono ?_
        rintro e w' ⟨rfl, hw⟩
        rw [hw]
        clear hw w' hs
        have hs := nilSeen_any w1
        go_wp2_with fail
        refine hs.mono ?_
        rintro e w' ⟨rfl, hw⟩
        rw [hw]
        clear hw w' hs
        have hs := nilCopy_any w1
        go_wp2_with fail
        refine hs.mono ?_
        rintro e w' ⟨rfl, hw⟩
        rw [hw]
        clear hw w' hs
        have hs := works15_any w1 F H (hT.later b)
        go_wp2_with fail
        refine hs.mono ?_
        rintro e w2 ⟨rfl, b2⟩
        clear hs
        go_wp2
        go_ret
        exact ⟨rfl, b.trans (b2.mono b.size)⟩

set_option maxRecDepth 100000 in
theorem recordKnown_lifted (os : Os) (started : os.Started) (H : Type) (enc : TypeId × Value → H) :
    ReturnsInHanded {} Tryz.checked os 5 .any (Rows.recordKnownSpec.pre6 enc Tryz.prog Tryz.f5 Rows.recordKnownRow.domain false) (Rows.recordKnownSpec.post enc Tryz.prog Tryz.f5 false true false false) := by
  refine returnsInHanded_of_change_shaped (C := Tryz.checked) own started (by kernel_rfl) Tryz.func5
    (ChangeSpec.witness6 (enc := enc) (C := Tryz.checked) false ⟨#[], #[], []⟩ 8 (by kernel_rfl) (by kernel_rfl) (by kernel_rfl) (by kernel_rfl)) ?_
  intro W base args ds gs before hsh hval0 hW
  have hW' := hW
  obtain ⟨p, q, hA0, hV, rfl, hfz, hnd⟩ := hW
  have hA : DataW.TrodAll enc Tryz.prog W 0 (fun _ => true) true Tryz.f5.params.toList args.toList ds p := hA0
  rw [Tryz.params5] at hA
  obtain ⟨hargs, rfl, rfl⟩ := trodAll_nil hA
  obtain rfl : args = #[] := by cases args; simp_all
  obtain ⟨rfl, rfl⟩ := trodVars_none hV
  clear hA0 hval0
  obtain ⟨F, K, hT⟩ := tabs_of_shaped hsh
  refine (recordKnown_any W F K hT).mono fun e W' ⟨he, bel⟩ => ?_
  subst he
  exact ⟨_, rfl, _, _, _, [], _, [], hW', trodAll_mk1 (shut_bool Tryz.underlying4 _), trodAll_mk0, rfl, bel.frame _, fun h => by cases h⟩

set_option maxRecDepth 100000 in
theorem recordKnown_holds : Rows.RecordKnownSaid :=
  OpenClaim.holds_of_wide 5 Tryz.f5 rfl rfl rfl rfl rfl rfl rfl ⟨rfl, rfl, rfl, rfl, rfl⟩ rfl rfl rfl rfl rfl (by kernel_rfl) Tryz.func5 (by kernel_rfl)
    (of_decide_eq_true (by kernel_rfl)) (by unfold Func.isWrapper; first | (rw [if_pos (by decide +kernel)]; kernel_rfl) | (rw [if_neg (by decide +kernel)]; exact ⟨rfl, rfl⟩))
    (fun os started H enc _ => recordKnown_lifted os started H enc)
#print axioms recordKnown_holds
end Go.Proofs.YtipehnojibdfeaaGreat
