/- Parts of the proof, as they were built: Term4, Term5, Term6. -/
import Derived.Test.YtipehnojibdfeaaGreatRk10
import Derived.Deep.RegionLaw
import Derived.Test.YtipehnojibdfeaaGreatRk6

/- the table of terms: put. -/
namespace Go.Proofs.YtipehnojibdfeaaGreat
open Go Go.Proofs Go.RowKit Go.Maps Go.WideMaps

theorem step_mapUpdate_own {H : Type} {P : Program} {ops : Array Oper} {o : Oper} {a : Act} {w : World} {K : Act → World → Prop} {Q : Exit → Act → World → Prop} {E : Prop}
    (hg : o.guard = none) (m x v : Operand) (t : TypeId) (hop : o.op = Op.mapUpdate t m x v)
    (k e : TypeId) (KL : Keyed P k) (ht : P.underlying t = some (.map k e)) (R : Value → Option (DataW H × List MemPlace)) (b n : Nat) (D : DataW H)
    (hm : a.eval m = .map (some b)) (hown : w.ownsMap P k R b n D) (hn : n < maxLen) (key val : Value) (kl : Lit) (hx : a.eval x = key) (hv : a.eval v = val) (hkey : keyOf P k key = some kl)
    (d : DataW H) (ps : List MemPlace) (hval : R val = some (d, ps))
    (hK : ∀ w', w'.ownsMap P k R b (n + 1) (D.put kl d) → w.grownBy w' (some b) → K (a.put o.dst undef) w') :
    if Region.wanted o (yielded ops a.tmps) = true then Oper.wp P o a w K Q else E := by
  have hw : Region.wanted o (yielded ops a.tmps) = true := by simp [Region.wanted, hg]
  rw [if_pos hw]
  obtain ⟨w', hrun, r1, r2⟩ := hown.update KL ht hn hkey hval
  unfold Oper.wp
  simp [execOp, hop, hm, hx, hv, hrun, Result.andThen]
  exact hK w' r1 r2

theorem nodeInfo0 : ((Tryz.prog.info? 199).map fun i => (i.size, i.bytes, i.zero.map (·.cells.size))) = some (1, 16, some 1) := by kernel_rfl
theorem nodeInfo : ∃ i z, Tryz.prog.info? 199 = some i ∧ i.zero = some z ∧ i.size = 1 ∧ i.bytes = 16 ∧ z.cells.size = 1 := by
  have h := nodeInfo0
  cases hi : Tryz.prog.info? 199 with
  | none => rw [hi] at h; simp at h
  | some i =>
    rw [hi] at h
    simp at h
    obtain ⟨h1, h2, z, hz, h3⟩ := h
    exact ⟨i, z, rfl, hz, h1, h2, h3⟩
theorem keyLaw : Keyed Tryz.prog 9 := string_keyed Tryz.underlying9
theorem zeroInt (w : World) : (zeroValue 3).run Tryz.prog w = .ok (.int .i64 0) w := by kernel_rfl

theorem ownsMap_ne_blk {H : Type} {P : Program} {k : TypeId} {R : Value → Option (DataW H × List MemPlace)} {b n g : Nat} {D : DataW H} {w : World} {ty : TypeId} {cs : Array Value} (h : w.ownsMap P k R b n D) (hg : Blk w g ty cs) : b ≠ g := by
  obtain ⟨es, cl, hh, _⟩ := h
  rintro rfl
  rw [Blk, hh] at hg; cases hg
theorem ownsMap_ne_row {H : Type} {P : Program} {k : TypeId} {R : Value → Option (DataW H × List MemPlace)} {b n m size base : Nat} {D : DataW H} {w : World} {e : TypeId} {v : Value} {xs : List Value} (h : w.ownsMap P k R b n D) (hv : w.ownsRow base e size v m xs) : v.ownBlock ≠ some b := by
  obtain ⟨es, cl, hh, _⟩ := h
  intro hb
  obtain ⟨cs, ho⟩ := ownsRow_obj hv hb hh
  cases ho
set_option maxRecDepth 100000 in
set_option maxHeartbeats 4000000 in
theorem putName_any (w : World) (base t M : Nat) (T : List Node) (names : Nat) (hT : TableAt w base t M T names) (hb : base ≤ w.heap.size) (hlen : T.length ≤ 100000) (x : Node) (hx : x.small)
    (av : Value) (hv : NodeAt w base M x (.iface 190 av)) (hkl : x.key.length ≤ 100000000000000)
    (hkey : Calls Tryz.prog 153 #[av] w fun e w' => e = .returned (.string (bs x.key)) ∧ Below w.heap.size w w') :
    Calls Tryz.prog 138 #[.pointer (some ⟨t, 0, none⟩), .iface 190 av] w fun e w' => e = .returned (.int .i64 ((putN T x).2 : Int)) ∧ TableAt w' base t M (putN T x).1 names ∧ TF base w w' := by
  have hmeet : ∀ (n : Nat) (W : World), (method (n + 1) 190 av "missive/term.key").run Tryz.prog W = .ok (153, av) W := by intro n W; kernel_rfl
  go_enter Tryz.func138, Tryz.ntmps138
  go_wp2_with fail
  refine hkey.mono ?_
  rintro e w1 ⟨rfl, b1⟩
  have hT1 := hT.later b1
  have q1 : TF base w w1 := TF.of_below b1 hb
  have hv1 : NodeAt w1 base M x (.iface 190 av) := hv.far_ (Q := fun _ => True) (Far.of_below b1) (fun _ => trivial)
  clear hT hv hkey hmeet
  obtain ⟨lv, xs, m, D, a1, a2, a3, a4, a5, a6, a7, a8⟩ := hT1
  obtain ⟨A, c, hlv⟩ := ownsRow_slice a2
  have C1 : w1.cell? ⟨t, 1, none⟩ = some (.map (some m)) := a1.cell 1
  have hkey : keyOf Tryz.prog 9 (.string (bs x.key)) = some (.string x.key) := keyOf_string_mk Tryz.underlying9 (by rw [bs_size]; unfold maxLen; omega)
  have hmap := a6.2 x.key
  have hput : putN T x = match findN T x.key with | some i => (T, i) | none => (T ++ [x], T.length) := rfl
  have C0 : w1.cell? ⟨t, 0, none⟩ = some (.slice A T.length c) := by rw [← hlv]; exact a1.cell 0
  have F0 : w1.frozen? ⟨t, 0, none⟩ = false := a1.frozen 0
  cases hf : findN T x.key with
  | some i =>
    rw [hf] at hmap hput
    obtain ⟨h1, h2⟩ := hmap
    go_wp2_with (at_lookup; refine wpList_lookup_own_ok_int _ rfl _ _ 86 rfl 9 3 .i64 keyLaw Tryz.underlying86 Tryz.underlying3 (zeroInt _) m T.length D rfl a5 _ _ rfl hkey ?_; intro cc hat hwc)
    go_ret
    rw [h2] at hat
    cases hat
    rw [hput]
    exact ⟨rfl, ⟨lv, xs, m, D, a1, a2, a3, a4, a5, a6, a7, a8⟩, q1⟩
  | none =>
    rw [hf] at hmap hput
    have hmis : Maps.has D (.string x.key) = false := hmap
    have HMAP : Hid (MapIs (T ++ [x]) (D.put (.string x.key) (.lit (.int .i64 (T.length : Int))))) := a6.put x hf
    have hT1 : TableAt w1 base t M T names := ⟨lv, xs, m, D, a1, a2, a3, a4, a5, a6, a7, a8⟩
    obtain ⟨iN, zN, hiN, hzN, hsN, hbyN, hzsN⟩ := nodeInfo
    have hbw1 : base ≤ w1.heap.size := Nat.le_trans hb b1.size
    have hnews : ∀ (j : Nat) (u : Value), [Value.iface 190 av][j]? = some u → (w1.alloc (.cells #[.iface 190 av] 199)).cell? ((⟨w1.heap.size, 0, none⟩ : Addr).add j) = some u := by
      intro j u hj
      match j, hj with
      | 0, hj => simp at hj; subst hj; exact (Blk.new w1 _ _).cell 0
    have h1c : ∀ u ∈ [Value.iface 190 av], u.oneCell' = true := by intro u hu; simp at hu; subst hu; rfl
    go_wp2_with (first | (at_lookup; refine wpList_lookup_own_ok_int _ rfl _ _ 86 rfl 9 3 .i64 keyLaw Tryz.underlying86 Tryz.underlying3 (zeroInt _) m T.length D rfl a5 _ _ rfl hkey ?_; intro cc hat hwc) | (at_builtin; refine wpList_append_own _ rfl _ _ 87 rfl base 199 iN zN 1 16 Tryz.underlying87 hiN hzN hsN hbyN hzsN (by decide) _ T.length xs (by rw [hlv]; rfl) (a2.alloc _) ⟨w1.heap.size, 0, none⟩ 1 1 [.iface 190 av] rfl rfl hnews h1c (by unfold maxLen; omega) (by omega) (by simp; omega) ?_; intro lv2 w2 hown2 hgrow2 hnil2; obtain ⟨A2, c2, hlv2⟩ := ownsRow_slice hown2; subst hlv2; have hB2 := (a1.alloc _).grown hgrow2 (fun e => own_blk_ne a2 a1 (by decide) e.symm); have F2 : w2.frozen? ⟨t, 0, none⟩ = false := hB2.frozen 0; have C2 : w2.cell? ⟨t, 0, none⟩ = some lv := hB2.cell 0))
    have hmt : m ≠ t := ownsMap_ne_blk a5 a1
    have hM2 := (a5.alloc (.cells #[.iface 190 av] 199)).kept hgrow2 (fun e => ownsMap_ne_row a5 a2 e.symm)
    obtain ⟨w3, hw3⟩ : ∃ w3, w3 = w2.setCell ⟨t, 0, none⟩ (.slice A2 (T.length + 1) c2) := ⟨_, rfl⟩
    have hB3 : Blk w3 t 89 #[.slice A2 (T.length + 1) c2, .map (some m), .int .i64 (names : Int)] := by rw [hw3]; exact hB2.set_ 0 _
    have hM3 : w3.ownsMap Tryz.prog 9 (plainElem Tryz.prog 3) m T.length D := by rw [hw3]; exact hM2.setCell hmt _
    have hne3 : (Value.slice A2 (T.length + 1) c2).ownBlock ≠ some t := own_blk_ne hown2 hB2 (by decide)
    have hO3 : w3.ownsRow base 199 1 (.slice A2 (T.length + 1) c2) (T.length + 1) (xs ++ [.iface 190 av]) := by rw [hw3]; exact hown2.kept (grownBy_set (grownBy_refl _ _) _) (.inr hne3)
    have q2 : TF base w w2 := (q1.trans (TF.of_below ((Below.refl _ _).alloc (Nat.le_refl _) _) hbw1)).trans (TF.of_grown hgrow2 (by simp; omega) (fun k hk => a2.ownBlock_ge hk) (fun k o hk ho => by
      obtain ⟨cs, ho2⟩ := ownsRow_obj (a2.alloc _) hk ho
      rw [ho2]; exact fun h => h.2 rfl))
    have q3 : TF base w w3 := by
      rw [hw3]
      exact q2.trans (TF.of_grown (grownBy_set (grownBy_refl w2 (some t)) _) (Nat.le_trans hbw1 (by have := hgrow2.size; simp at this; omega)) (fun k hk => by cases hk; exact a3) (fun k o hk ho => by
        cases hk; rw [hB2] at ho; cases ho; exact fun h => h.1 rfl))
    rw [← hw3]
    have C30 : w3.cell? ⟨t, 0, none⟩ = some (.slice A2 (T.length + 1) c2) := hB3.cell 0
    have C31 : w3.cell? ⟨t, 1, none⟩ = some (.map (some m)) := hB3.cell 1
    have HX : Hid (∀ w4 : World, w3.grownBy w4 (some m) → w4.ownsMap Tryz.prog 9 (plainElem Tryz.prog 3) m (T.length + 1) (D.put (.string x.key) (.lit (.int .i64 (T.length : Int)))) → TableAt w4 base t M (T ++ [x]) names ∧ TF base w w4) := by
      intro w4 hg4 hm4
      have hf4 : TF base w3 w4 := TF.of_grown hg4 (Nat.le_trans hb q3.1.size) (fun k hk => by cases hk; exact a4) (fun k o hk ho => by
        cases hk
        obtain ⟨es, cl, hh, _⟩ := hM3
        rw [hh] at ho; cases ho; exact fun h => h)
      have hq4 : TF base w w4 := q3.trans hf4
      have hfar1 : Far notTable w1 w4 := by
        have h12 : Far notTable w1 w2 := ((Far.of_below ((Below.refl w1.heap.size w1).alloc (Nat.le_refl _) _)).trans (Far.of_grown hgrow2 (fun k o hk ho => by
          obtain ⟨cs, ho2⟩ := ownsRow_obj (a2.alloc _) hk ho
          rw [ho2]; exact fun h => h.2 rfl)))
        have h23 : Far notTable w2 w3 := by
          rw [hw3]
          exact Far.of_grown (grownBy_set (grownBy_refl w2 (some t)) _) (fun k o hk ho => by cases hk; rw [hB2] at ho; cases ho; exact fun h => h.1 rfl)
        exact (h12.trans h23).trans hf4.2
      refine ⟨⟨_, xs ++ [.iface 190 av], m, _, hB3.grown hg4 (fun e => hmt (Option.some.inj e).symm), ?_, a3, a4, ?_, HMAP.out, ?_, ?_⟩, hq4⟩
      · rw [List.length_append, List.length_singleton]
        exact hO3.kept hg4 (.inr (fun e => ownsMap_ne_row hM3 hO3 e))
      · rw [List.length_append, List.length_singleton]; exact hm4
      · intro i y hy
        rcases Nat.lt_or_ge i T.length with hlt | hge
        · rw [List.getElem?_append_left hlt] at hy
          obtain ⟨v, hv, hn⟩ := a7 i y hy
          exact ⟨v, by rw [List.getElem?_append_left (List.getElem?_eq_some_iff.1 hv).1]; exact hv, hn.far_ hfar1 (fun _ => ⟨by decide, by decide⟩)⟩
        · rw [List.getElem?_append_right hge] at hy
          have hxl : xs.length = T.length := by have := a2.1; simpa using this
          have hi0 : i - T.length = 0 := by
            rcases Nat.eq_zero_or_pos (i - T.length) with h | h
            · exact h
            · rw [List.getElem?_eq_none (by simp; omega)] at hy; cases hy
          rw [hi0] at hy
          simp at hy
          subst hy
          exact ⟨_, by rw [List.getElem?_append_right (by omega), hxl, hi0]; rfl, hv1.far_ hfar1 (fun _ => ⟨by decide, by decide⟩)⟩
      · intro y hy
        rcases List.mem_append.1 hy with h | h
        · exact a8 y h
        · simp at h; subst h; exact hx
    clear hw3 q1 q2 q3 hB2 F2 C2 hM2 a1 a2 a3 a4 a5 a6 a7 a8 hT1 hv1 hown2 hgrow2 hnil2 HMAP hnews h1c hmap hat hwc C0 C1 F0 hiN hzN hsN hbyN hzsN hlv b1
    have hwr : IntKind.i64.wrap (T.length : Int) = (T.length : Int) := by rw [IntKind.wrap_i64]; omega
    have hval : plainElem (H := Unit) Tryz.prog 3 (.int .i64 (T.length : Int)) = some (.lit (.int .i64 (T.length : Int)), []) := plainElem_int Tryz.underlying3 (WalkArith.wf_i64 (by omega))
    have hM3d : w3.drew.ownsMap Tryz.prog 9 (plainElem Tryz.prog 3) m T.length D := hM3
    obtain ⟨w4, hrun, hown4, hgrow4⟩ := hM3d.update keyLaw Tryz.underlying86 (by unfold maxLen; omega) hkey hval
    have C4 : w4.cell? ⟨t, 0, none⟩ = some (.slice A2 (T.length + 1) c2) := (hB3.drew.grown hgrow4 (fun e => hmt (Option.some.inj e).symm)).cell 0
    clear hB3 hM3 hO3
    go_region
    all_goals (go_wp2; go_ret; rw [hput]; exact ⟨rfl, HX.out w4 ⟨hgrow4.os, hgrow4.tape, hgrow4.output, hgrow4.size, hgrow4.block⟩ hown4⟩)
set_option maxRecDepth 100000 in
set_option maxHeartbeats 4000000 in
theorem putData_any (w : World) (base t M : Nat) (T : List Node) (names : Nat) (hT : TableAt w base t M T names) (hb : base ≤ w.heap.size) (hlen : T.length ≤ 100000) (x : Node) (hx : x.small)
    (av : Value) (hv : NodeAt w base M x (.iface 201 av)) (hkl : x.key.length ≤ 100000000000000)
    (hkey : Calls Tryz.prog 155 #[av] w fun e w' => e = .returned (.string (bs x.key)) ∧ Below w.heap.size w w') :
    Calls Tryz.prog 138 #[.pointer (some ⟨t, 0, none⟩), .iface 201 av] w fun e w' => e = .returned (.int .i64 ((putN T x).2 : Int)) ∧ TableAt w' base t M (putN T x).1 names ∧ TF base w w' := by
  have hmeet : ∀ (n : Nat) (W : World), (method (n + 1) 201 av "missive/term.key").run Tryz.prog W = .ok (155, av) W := by intro n W; kernel_rfl
  go_enter Tryz.func138, Tryz.ntmps138
  go_wp2_with fail
  refine hkey.mono ?_
  rintro e w1 ⟨rfl, b1⟩
  have hT1 := hT.later b1
  have q1 : TF base w w1 := TF.of_below b1 hb
  have hv1 : NodeAt w1 base M x (.iface 201 av) := hv.far_ (Q := fun _ => True) (Far.of_below b1) (fun _ => trivial)
  clear hT hv hkey hmeet
  obtain ⟨lv, xs, m, D, a1, a2, a3, a4, a5, a6, a7, a8⟩ := hT1
  obtain ⟨A, c, hlv⟩ := ownsRow_slice a2
  have C1 : w1.cell? ⟨t, 1, none⟩ = some (.map (some m)) := a1.cell 1
  have hkey : keyOf Tryz.prog 9 (.string (bs x.key)) = some (.string x.key) := keyOf_string_mk Tryz.underlying9 (by rw [bs_size]; unfold maxLen; omega)
  have hmap := a6.2 x.key
  have hput : putN T x = match findN T x.key with | some i => (T, i) | none => (T ++ [x], T.length) := rfl
  have C0 : w1.cell? ⟨t, 0, none⟩ = some (.slice A T.length c) := by rw [← hlv]; exact a1.cell 0
  have F0 : w1.frozen? ⟨t, 0, none⟩ = false := a1.frozen 0
  cases hf : findN T x.key with
  | some i =>
    rw [hf] at hmap hput
    obtain ⟨h1, h2⟩ := hmap
    go_wp2_with (at_lookup; refine wpList_lookup_own_ok_int _ rfl _ _ 86 rfl 9 3 .i64 keyLaw Tryz.underlying86 Tryz.underlying3 (zeroInt _) m T.length D rfl a5 _ _ rfl hkey ?_; intro cc hat hwc)
    go_ret
    rw [h2] at hat
    cases hat
    rw [hput]
    exact ⟨rfl, ⟨lv, xs, m, D, a1, a2, a3, a4, a5, a6, a7, a8⟩, q1⟩
  | none =>
    rw [hf] at hmap hput
    have hmis : Maps.has D (.string x.key) = false := hmap
    have HMAP : Hid (MapIs (T ++ [x]) (D.put (.string x.key) (.lit (.int .i64 (T.length : Int))))) := a6.put x hf
    have hT1 : TableAt w1 base t M T names := ⟨lv, xs, m, D, a1, a2, a3, a4, a5, a6, a7, a8⟩
    obtain ⟨iN, zN, hiN, hzN, hsN, hbyN, hzsN⟩ := nodeInfo
    have hbw1 : base ≤ w1.heap.size := Nat.le_trans hb b1.size
    have hnews : ∀ (j : Nat) (u : Value), [Value.iface 201 av][j]? = some u → (w1.alloc (.cells #[.iface 201 av] 199)).cell? ((⟨w1.heap.size, 0, none⟩ : Addr).add j) = some u := by
      intro j u hj
      match j, hj with
      | 0, hj => simp at hj; subst hj; exact (Blk.new w1 _ _).cell 0
    have h1c : ∀ u ∈ [Value.iface 201 av], u.oneCell' = true := by intro u hu; simp at hu; subst hu; rfl
    go_wp2_with (first | (at_lookup; refine wpList_lookup_own_ok_int _ rfl _ _ 86 rfl 9 3 .i64 keyLaw Tryz.underlying86 Tryz.underlying3 (zeroInt _) m T.length D rfl a5 _ _ rfl hkey ?_; intro cc hat hwc) | (at_builtin; refine wpList_append_own _ rfl _ _ 87 rfl base 199 iN zN 1 16 Tryz.underlying87 hiN hzN hsN hbyN hzsN (by decide) _ T.length xs (by rw [hlv]; rfl) (a2.alloc _) ⟨w1.heap.size, 0, none⟩ 1 1 [.iface 201 av] rfl rfl hnews h1c (by unfold maxLen; omega) (by omega) (by simp; omega) ?_; intro lv2 w2 hown2 hgrow2 hnil2; obtain ⟨A2, c2, hlv2⟩ := ownsRow_slice hown2; subst hlv2; have hB2 := (a1.alloc _).grown hgrow2 (fun e => own_blk_ne a2 a1 (by decide) e.symm); have F2 : w2.frozen? ⟨t, 0, none⟩ = false := hB2.frozen 0; have C2 : w2.cell? ⟨t, 0, none⟩ = some lv := hB2.cell 0))
    have hmt : m ≠ t := ownsMap_ne_blk a5 a1
    have hM2 := (a5.alloc (.cells #[.iface 201 av] 199)).kept hgrow2 (fun e => ownsMap_ne_row a5 a2 e.symm)
    obtain ⟨w3, hw3⟩ : ∃ w3, w3 = w2.setCell ⟨t, 0, none⟩ (.slice A2 (T.length + 1) c2) := ⟨_, rfl⟩
    have hB3 : Blk w3 t 89 #[.slice A2 (T.length + 1) c2, .map (some m), .int .i64 (names : Int)] := by rw [hw3]; exact hB2.set_ 0 _
    have hM3 : w3.ownsMap Tryz.prog 9 (plainElem Tryz.prog 3) m T.length D := by rw [hw3]; exact hM2.setCell hmt _
    have hne3 : (Value.slice A2 (T.length + 1) c2).ownBlock ≠ some t := own_blk_ne hown2 hB2 (by decide)
    have hO3 : w3.ownsRow base 199 1 (.slice A2 (T.length + 1) c2) (T.length + 1) (xs ++ [.iface 201 av]) := by rw [hw3]; exact hown2.kept (grownBy_set (grownBy_refl _ _) _) (.inr hne3)
    have q2 : TF base w w2 := (q1.trans (TF.of_below ((Below.refl _ _).alloc (Nat.le_refl _) _) hbw1)).trans (TF.of_grown hgrow2 (by simp; omega) (fun k hk => a2.ownBlock_ge hk) (fun k o hk ho => by
      obtain ⟨cs, ho2⟩ := ownsRow_obj (a2.alloc _) hk ho
      rw [ho2]; exact fun h => h.2 rfl))
    have q3 : TF base w w3 := by
      rw [hw3]
      exact q2.trans (TF.of_grown (grownBy_set (grownBy_refl w2 (some t)) _) (Nat.le_trans hbw1 (by have := hgrow2.size; simp at this; omega)) (fun k hk => by cases hk; exact a3) (fun k o hk ho => by
        cases hk; rw [hB2] at ho; cases ho; exact fun h => h.1 rfl))
    rw [← hw3]
    have C30 : w3.cell? ⟨t, 0, none⟩ = some (.slice A2 (T.length + 1) c2) := hB3.cell 0
    have C31 : w3.cell? ⟨t, 1, none⟩ = some (.map (some m)) := hB3.cell 1
    have HX : Hid (∀ w4 : World, w3.grownBy w4 (some m) → w4.ownsMap Tryz.prog 9 (plainElem Tryz.prog 3) m (T.length + 1) (D.put (.string x.key) (.lit (.int .i64 (T.length : Int)))) → TableAt w4 base t M (T ++ [x]) names ∧ TF base w w4) := by
      intro w4 hg4 hm4
      have hf4 : TF base w3 w4 := TF.of_grown hg4 (Nat.le_trans hb q3.1.size) (fun k hk => by cases hk; exact a4) (fun k o hk ho => by
        cases hk
        obtain ⟨es, cl, hh, _⟩ := hM3
        rw [hh] at ho; cases ho; exact fun h => h)
      have hq4 : TF base w w4 := q3.trans hf4
      have hfar1 : Far notTable w1 w4 := by
        have h12 : Far notTable w1 w2 := ((Far.of_below ((Below.refl w1.heap.size w1).alloc (Nat.le_refl _) _)).trans (Far.of_grown hgrow2 (fun k o hk ho => by
          obtain ⟨cs, ho2⟩ := ownsRow_obj (a2.alloc _) hk ho
          rw [ho2]; exact fun h => h.2 rfl)))
        have h23 : Far notTable w2 w3 := by
          rw [hw3]
          exact Far.of_grown (grownBy_set (grownBy_refl w2 (some t)) _) (fun k o hk ho => by cases hk; rw [hB2] at ho; cases ho; exact fun h => h.1 rfl)
        exact (h12.trans h23).trans hf4.2
      refine ⟨⟨_, xs ++ [.iface 201 av], m, _, hB3.grown hg4 (fun e => hmt (Option.some.inj e).symm), ?_, a3, a4, ?_, HMAP.out, ?_, ?_⟩, hq4⟩
      · rw [List.length_append, List.length_singleton]
        exact hO3.kept hg4 (.inr (fun e => ownsMap_ne_row hM3 hO3 e))
      · rw [List.length_append, List.length_singleton]; exact hm4
      · intro i y hy
        rcases Nat.lt_or_ge i T.length with hlt | hge
        · rw [List.getElem?_append_left hlt] at hy
          obtain ⟨v, hv, hn⟩ := a7 i y hy
          exact ⟨v, by rw [List.getElem?_append_left (List.getElem?_eq_some_iff.1 hv).1]; exact hv, hn.far_ hfar1 (fun _ => ⟨by decide, by decide⟩)⟩
        · rw [List.getElem?_append_right hge] at hy
          have hxl : xs.length = T.length := by have := a2.1; simpa using this
          have hi0 : i - T.length = 0 := by
            rcases Nat.eq_zero_or_pos (i - T.length) with h | h
            · exact h
            · rw [List.getElem?_eq_none (by simp; omega)] at hy; cases hy
          rw [hi0] at hy
          simp at hy
          subst hy
          exact ⟨_, by rw [List.getElem?_append_right (by omega), hxl, hi0]; rfl, hv1.far_ hfar1 (fun _ => ⟨by decide, by decide⟩)⟩
      · intro y hy
        rcases List.mem_append.1 hy with h | h
        · exact a8 y h
        · simp at h; subst h; exact hx
    clear hw3 q1 q2 q3 hB2 F2 C2 hM2 a1 a2 a3 a4 a5 a6 a7 a8 hT1 hv1 hown2 hgrow2 hnil2 HMAP hnews h1c hmap hat hwc C0 C1 F0 hiN hzN hsN hbyN hzsN hlv b1
    have hwr : IntKind.i64.wrap (T.length : Int) = (T.length : Int) := by rw [IntKind.wrap_i64]; omega
    have hval : plainElem (H := Unit) Tryz.prog 3 (.int .i64 (T.length : Int)) = some (.lit (.int .i64 (T.length : Int)), []) := plainElem_int Tryz.underlying3 (WalkArith.wf_i64 (by omega))
    have hM3d : w3.drew.ownsMap Tryz.prog 9 (plainElem Tryz.prog 3) m T.length D := hM3
    obtain ⟨w4, hrun, hown4, hgrow4⟩ := hM3d.update keyLaw Tryz.underlying86 (by unfold maxLen; omega) hkey hval
    have C4 : w4.cell? ⟨t, 0, none⟩ = some (.slice A2 (T.length + 1) c2) := (hB3.drew.grown hgrow4 (fun e => hmt (Option.some.inj e).symm)).cell 0
    clear hB3 hM3 hO3
    go_region
    all_goals (go_wp2; go_ret; rw [hput]; exact ⟨rfl, HX.out w4 ⟨hgrow4.os, hgrow4.tape, hgrow4.output, hgrow4.size, hgrow4.block⟩ hown4⟩)
set_option maxRecDepth 100000 in
set_option maxHeartbeats 4000000 in
theorem putMade_any (w : World) (base t M : Nat) (T : List Node) (names : Nat) (hT : TableAt w base t M T names) (hb : base ≤ w.heap.size) (hlen : T.length ≤ 100000) (x : Node) (hx : x.small)
    (av : Value) (hv : NodeAt w base M x (.iface 195 av)) (hkl : x.key.length ≤ 100000000000000)
    (hkey : Calls Tryz.prog 154 #[av] w fun e w' => e = .returned (.string (bs x.key)) ∧ Below w.heap.size w w') :
    Calls Tryz.prog 138 #[.pointer (some ⟨t, 0, none⟩), .iface 195 av] w fun e w' => e = .returned (.int .i64 ((putN T x).2 : Int)) ∧ TableAt w' base t M (putN T x).1 names ∧ TF base w w' := by
  have hmeet : ∀ (n : Nat) (W : World), (method (n + 1) 195 av "missive/term.key").run Tryz.prog W = .ok (154, av) W := by intro n W; kernel_rfl
  go_enter Tryz.func138, Tryz.ntmps138
  go_wp2_with fail
  refine hkey.mono ?_
  rintro e w1 ⟨rfl, b1⟩
  have hT1 := hT.later b1
  have q1 : TF base w w1 := TF.of_below b1 hb
  have hv1 : NodeAt w1 base M x (.iface 195 av) := hv.far_ (Q := fun _ => True) (Far.of_below b1) (fun _ => trivial)
  clear hT hv hkey hmeet
  obtain ⟨lv, xs, m, D, a1, a2, a3, a4, a5, a6, a7, a8⟩ := hT1
  obtain ⟨A, c, hlv⟩ := ownsRow_slice a2
  have C1 : w1.cell? ⟨t, 1, none⟩ = some (.map (some m)) := a1.cell 1
  have hkey : keyOf Tryz.prog 9 (.string (bs x.key)) = some (.string x.key) := keyOf_string_mk Tryz.underlying9 (by rw [bs_size]; unfold maxLen; omega)
  have hmap := a6.2 x.key
  have hput : putN T x = match findN T x.key with | some i => (T, i) | none => (T ++ [x], T.length) := rfl
  have C0 : w1.cell? ⟨t, 0, none⟩ = some (.slice A T.length c) := by rw [← hlv]; exact a1.cell 0
  have F0 : w1.frozen? ⟨t, 0, none⟩ = false := a1.frozen 0
  cases hf : findN T x.key with
  | some i =>
    rw [hf] at hmap hput
    obtain ⟨h1, h2⟩ := hmap
    go_wp2_with (at_lookup; refine wpList_lookup_own_ok_int _ rfl _ _ 86 rfl 9 3 .i64 keyLaw Tryz.underlying86 Tryz.underlying3 (zeroInt _) m T.length D rfl a5 _ _ rfl hkey ?_; intro cc hat hwc)
    go_ret
    rw [h2] at hat
    cases hat
    rw [hput]
    exact ⟨rfl, ⟨lv, xs, m, D, a1, a2, a3, a4, a5, a6, a7, a8⟩, q1⟩
  | none =>
    rw [hf] at hmap hput
    have hmis : Maps.has D (.string x.key) = false := hmap
    have HMAP : Hid (MapIs (T ++ [x]) (D.put (.string x.key) (.lit (.int .i64 (T.length : Int))))) := a6.put x hf
    have hT1 : TableAt w1 base t M T names := ⟨lv, xs, m, D, a1, a2, a3, a4, a5, a6, a7, a8⟩
    obtain ⟨iN, zN, hiN, hzN, hsN, hbyN, hzsN⟩ := nodeInfo
    have hbw1 : base ≤ w1.heap.size := Nat.le_trans hb b1.size
    have hnews : ∀ (j : Nat) (u : Value), [Value.iface 195 av][j]? = some u → (w1.alloc (.cells #[.iface 195 av] 199)).cell? ((⟨w1.heap.size, 0, none⟩ : Addr).add j) = some u := by
      intro j u hj
      match j, hj with
      | 0, hj => simp at hj; subst hj; exact (Blk.new w1 _ _).cell 0
    have h1c : ∀ u ∈ [Value.iface 195 av], u.oneCell' = true := by intro u hu; simp at hu; subst hu; rfl
    go_wp2_with (first | (at_lookup; refine wpList_lookup_own_ok_int _ rfl _ _ 86 rfl 9 3 .i64 keyLaw Tryz.underlying86 Tryz.underlying3 (zeroInt _) m T.length D rfl a5 _ _ rfl hkey ?_; intro cc hat hwc) | (at_builtin; refine wpList_append_own _ rfl _ _ 87 rfl base 199 iN zN 1 16 Tryz.underlying87 hiN hzN hsN hbyN hzsN (by decide) _ T.length xs (by rw [hlv]; rfl) (a2.alloc _) ⟨w1.heap.size, 0, none⟩ 1 1 [.iface 195 av] rfl rfl hnews h1c (by unfold maxLen; omega) (by omega) (by simp; omega) ?_; intro lv2 w2 hown2 hgrow2 hnil2; obtain ⟨A2, c2, hlv2⟩ := ownsRow_slice hown2; subst hlv2; have hB2 := (a1.alloc _).grown hgrow2 (fun e => own_blk_ne a2 a1 (by decide) e.symm); have F2 : w2.frozen? ⟨t, 0, none⟩ = false := hB2.frozen 0; have C2 : w2.cell? ⟨t, 0, none⟩ = some lv := hB2.cell 0))
    have hmt : m ≠ t := ownsMap_ne_blk a5 a1
    have hM2 := (a5.alloc (.cells #[.iface 195 av] 199)).kept hgrow2 (fun e => ownsMap_ne_row a5 a2 e.symm)
    obtain ⟨w3, hw3⟩ : ∃ w3, w3 = w2.setCell ⟨t, 0, none⟩ (.slice A2 (T.length + 1) c2) := ⟨_, rfl⟩
    have hB3 : Blk w3 t 89 #[.slice A2 (T.length + 1) c2, .map (some m), .int .i64 (names : Int)] := by rw [hw3]; exact hB2.set_ 0 _
    have hM3 : w3.ownsMap Tryz.prog 9 (plainElem Tryz.prog 3) m T.length D := by rw [hw3]; exact hM2.setCell hmt _
    have hne3 : (Value.slice A2 (T.length + 1) c2).ownBlock ≠ some t := own_blk_ne hown2 hB2 (by decide)
    have hO3 : w3.ownsRow base 199 1 (.slice A2 (T.length + 1) c2) (T.length + 1) (xs ++ [.iface 195 av]) := by rw [hw3]; exact hown2.kept (grownBy_set (grownBy_refl _ _) _) (.inr hne3)
    have q2 : TF base w w2 := (q1.trans (TF.of_below ((Below.refl _ _).alloc (Nat.le_refl _) _) hbw1)).trans (TF.of_grown hgrow2 (by simp; omega) (fun k hk => a2.ownBlock_ge hk) (fun k o hk ho => by
      obtain ⟨cs, ho2⟩ := ownsRow_obj (a2.alloc _) hk ho
      rw [ho2]; exact fun h => h.2 rfl))
    have q3 : TF base w w3 := by
      rw [hw3]
      exact q2.trans (TF.of_grown (grownBy_set (grownBy_refl w2 (some t)) _) (Nat.le_trans hbw1 (by have := hgrow2.size; simp at this; omega)) (fun k hk => by cases hk; exact a3) (fun k o hk ho => by
        cases hk; rw [hB2] at ho; cases ho; exact fun h => h.1 rfl))
    rw [← hw3]
    have C30 : w3.cell? ⟨t, 0, none⟩ = some (.slice A2 (T.length + 1) c2) := hB3.cell 0
    have C31 : w3.cell? ⟨t, 1, none⟩ = some (.map (some m)) := hB3.cell 1
    have HX : Hid (∀ w4 : World, w3.grownBy w4 (some m) → w4.ownsMap Tryz.prog 9 (plainElem Tryz.prog 3) m (T.length + 1) (D.put (.string x.key) (.lit (.int .i64 (T.length : Int)))) → TableAt w4 base t M (T ++ [x]) names ∧ TF base w w4) := by
      intro w4 hg4 hm4
      have hf4 : TF base w3 w4 := TF.of_grown hg4 (Nat.le_trans hb q3.1.size) (fun k hk => by cases hk; exact a4) (fun k o hk ho => by
        cases hk
        obtain ⟨es, cl, hh, _⟩ := hM3
        rw [hh] at ho; cases ho; exact fun h => h)
      have hq4 : TF base w w4 := q3.trans hf4
      have hfar1 : Far notTable w1 w4 := by
        have h12 : Far notTable w1 w2 := ((Far.of_below ((Below.refl w1.heap.size w1).alloc (Nat.le_refl _) _)).trans (Far.of_grown hgrow2 (fun k o hk ho => by
          obtain ⟨cs, ho2⟩ := ownsRow_obj (a2.alloc _) hk ho
          rw [ho2]; exact fun h => h.2 rfl)))
        have h23 : Far notTable w2 w3 := by
          rw [hw3]
          exact Far.of_grown (grownBy_set (grownBy_refl w2 (some t)) _) (fun k o hk ho => by cases hk; rw [hB2] at ho; cases ho; exact fun h => h.1 rfl)
        exact (h12.trans h23).trans hf4.2
      refine ⟨⟨_, xs ++ [.iface 195 av], m, _, hB3.grown hg4 (fun e => hmt (Option.some.inj e).symm), ?_, a3, a4, ?_, HMAP.out, ?_, ?_⟩, hq4⟩
      · rw [List.length_append, List.length_singleton]
        exact hO3.kept hg4 (.inr (fun e => ownsMap_ne_row hM3 hO3 e))
      · rw [List.length_append, List.length_singleton]; exact hm4
      · intro i y hy
        rcases Nat.lt_or_ge i T.length with hlt | hge
        · rw [List.getElem?_append_left hlt] at hy
          obtain ⟨v, hv, hn⟩ := a7 i y hy
          exact ⟨v, by rw [List.getElem?_append_left (List.getElem?_eq_some_iff.1 hv).1]; exact hv, hn.far_ hfar1 (fun _ => ⟨by decide, by decide⟩)⟩
        · rw [List.getElem?_append_right hge] at hy
          have hxl : xs.length = T.length := by have := a2.1; simpa using this
          have hi0 : i - T.length = 0 := by
            rcases Nat.eq_zero_or_pos (i - T.length) with h | h
            · exact h
            · rw [List.getElem?_eq_none (by simp; omega)] at hy; cases hy
          rw [hi0] at hy
          simp at hy
          subst hy
          exact ⟨_, by rw [List.getElem?_append_right (by omega), hxl, hi0]; rfl, hv1.far_ hfar1 (fun _ => ⟨by decide, by decide⟩)⟩
      · intro y hy
        rcases List.mem_append.1 hy with h | h
        · exact a8 y h
        · simp at h; subst h; exact hx
    clear hw3 q1 q2 q3 hB2 F2 C2 hM2 a1 a2 a3 a4 a5 a6 a7 a8 hT1 hv1 hown2 hgrow2 hnil2 HMAP hnews h1c hmap hat hwc C0 C1 F0 hiN hzN hsN hbyN hzsN hlv b1
    have hwr : IntKind.i64.wrap (T.length : Int) = (T.length : Int) := by rw [IntKind.wrap_i64]; omega
    have hval : plainElem (H := Unit) Tryz.prog 3 (.int .i64 (T.length : Int)) = some (.lit (.int .i64 (T.length : Int)), []) := plainElem_int Tryz.underlying3 (WalkArith.wf_i64 (by omega))
    have hM3d : w3.drew.ownsMap Tryz.prog 9 (plainElem Tryz.prog 3) m T.length D := hM3
    obtain ⟨w4, hrun, hown4, hgrow4⟩ := hM3d.update keyLaw Tryz.underlying86 (by unfold maxLen; omega) hkey hval
    have C4 : w4.cell? ⟨t, 0, none⟩ = some (.slice A2 (T.length + 1) c2) := (hB3.drew.grown hgrow4 (fun e => hmt (Option.some.inj e).symm)).cell 0
    clear hB3 hM3 hO3
    go_region
    all_goals (go_wp2; go_ret; rw [hput]; exact ⟨rfl, HX.out w4 ⟨hgrow4.os, hgrow4.tape, hgrow4.output, hgrow4.size, hgrow4.block⟩ hown4⟩)
end Go.Proofs.YtipehnojibdfeaaGreat

/- the table of terms: number. -/
namespace Go.Proofs.YtipehnojibdfeaaGreat
open Go Go.Proofs Go.RowKit

def numI (len : Nat) (s : List UInt8) : Int := match numOf len s with | some n => (n : Int) | none => -1
set_option maxRecDepth 100000 in
set_option maxHeartbeats 2000000 in
theorem termNumber_any (w : World) (base t M : Nat) (T : List Node) (k : Nat) (hT : TableAt w base t M T k) (hlen : T.length ≤ 100000) (s : ByteArray) (hs : s.size ≤ 9223372036854775807) : Calls Tryz.prog 145 #[.pointer (some ⟨t, 0, none⟩), .string s] w fun e w' => e = .returned (.int .i64 (numI T.length s.data.toList)) ∧ Below w.heap.size w w' := by
  have hsl : s.data.toList.length = s.size := rfl
  have hpre := Tryz.strings_HasPrefix s ⟨#[240, 84, 82, 77]⟩ w
  by_cases h8 : s.size = 8
  · by_cases hm : s.data.toList.take 4 = markL
    · have hP : Lib.hasPrefix s.data.toList [240, 84, 82, 77] = true := by rw [← Lib.hasPrefix_of_take]; simp [markL] at hm ⊢; exact ⟨by omega, hm⟩
      have hp' : Calls Tryz.prog 148 #[.string s, .string ⟨#[240, 84, 82, 77]⟩] w fun e w' => e = .returned (.bool true) ∧ w' = w := hpre.mono (fun e w' h => ⟨h.1.trans (by rw [← hP]), h.2⟩)
      have hsz : ((s.size : Int) != 8) = false := by rw [bne_eq_false_iff_eq]; omega
      have hnew := new_any w (s.extract 4 8)
      obtain ⟨d, hd⟩ : ∃ d, d = s.data.toList.drop 4 := ⟨_, rfl⟩
      have hex : s.extract 4 8 = bs d := by rw [hd, ← h8]; exact bs_drop s.data.toList 4 _ rfl
      have hdl : d.length = 4 := by rw [hd, List.length_drop, hsl, h8]
      rw [hex] at hnew
      have HNUM : Hid (numI T.length s.data.toList = if beNat d < T.length then (beNat d : Int) else -1) := by
        show numI T.length s.data.toList = _
        unfold numI numOf
        rw [← hd]
        by_cases hlt : beNat d < T.length
        · rw [if_pos ⟨hsl.trans h8, hm, hlt⟩, if_pos hlt]
        · rw [if_neg (fun h => hlt h.2.2), if_neg hlt]
      have HEX : Hid (s.extract 4 8 = bs d) := hex
      clear hpre hm hP hd hex hsl
      go_enter Tryz.func145, Tryz.ntmps145
      go_wp2_with fail
      refine hp'.mono ?_
      rintro e w' ⟨rfl, hw⟩
      rw [hw]
      clear hw w' hp'
      go_wp2_with fail
      rw [HEX.out]
      refine hnew.mono ?_
      rintro e w1 ⟨r, rfl, hr, hrd, b1⟩
      have hnum := number_any w1 r 4 d hrd (by omega) (by omega)
      clear hnew


      go_wp2_with fail
      refine hnum.mono ?_
      rintro e w2 ⟨b2, hp⟩
      rw [if_pos (by omega)] at hp
      obtain ⟨rfl, _⟩ := hp
      have htk : d.take 4 = d := List.take_of_length_le (by omega)
      rw [htk]
      have b3 : Below w.heap.size w w2 := b1.trans (b2.mono hr)
      have hbe : beNat d < 4294967296 := by have := beNat_lt d; rw [hdl] at this; exact this
      have hL := termLen_any w2 base t M T k (hT.later b3)
      clear hnum
      by_cases hlt : beNat d < T.length
      · have HN2 : Hid (numI T.length s.data.toList = (beNat d : Int)) := HNUM.out.trans (if_pos hlt)
        have hcmp : decide ((T.length : Int) ≤ (beNat d : Int)) = false := by simp; omega
        go_wp2_with fail
        refine hL.mono ?_
        rintro e w' ⟨rfl, hw⟩
        rw [hw]
        clear hw w' hL
        go_wp2
        go_ret
        exact ⟨by rw [HN2.out]; rfl, b3⟩
      · have HN2 : Hid (numI T.length s.data.toList = -1) := HNUM.out.trans (if_neg hlt)
        have hcmp : decide ((T.length : Int) ≤ (beNat d : Int)) = true := by simp; omega
        go_wp2_with fail
        refine hL.mono ?_
        rintro e w' ⟨rfl, hw⟩
        rw [hw]
        clear hw w' hL
        go_wp2
        go_ret
        exact ⟨by rw [HN2.out]; rfl, b3⟩
    · have hP : Lib.hasPrefix s.data.toList [240, 84, 82, 77] = false := by
        rw [← Lib.hasPrefix_of_take]
        simp [markL] at hm ⊢
        exact fun _ => hm
      have hp' : Calls Tryz.prog 148 #[.string s, .string ⟨#[240, 84, 82, 77]⟩] w fun e w' => e = .returned (.bool false) ∧ w' = w := hpre.mono (fun e w' h => ⟨h.1.trans (by rw [← hP]), h.2⟩)
      have hsz : ((s.size : Int) != 8) = false := by rw [bne_eq_false_iff_eq]; omega
      have HN : Hid (numI T.length s.data.toList = -1) := by
        show numI T.length s.data.toList = _
        unfold numI; rw [numOf_unlike (fun h => hm h.2)]
      clear hpre hm hP hsl
      go_enter Tryz.func145, Tryz.ntmps145
      go_wp2_with fail
      refine hp'.mono ?_
      rintro e w' ⟨rfl, hw⟩
      rw [hw]
      clear hw w' hp'
      go_wp2
      go_ret
      exact ⟨by rw [HN.out]; rfl, Below.refl _ _⟩
  · have hsz : ((s.size : Int) != 8) = true := by rw [bne_iff_ne]; omega
    have HN : Hid (numI T.length s.data.toList = -1) := by
      show numI T.length s.data.toList = _
      unfold numI; rw [numOf_unlike (fun h => h8 (hsl.symm.trans h.1))]
    clear hpre hsl
    go_enter Tryz.func145, Tryz.ntmps145
    go_wp2_with fail
    go_ret
    exact ⟨by rw [HN.out]; rfl, Below.refl _ _⟩
end Go.Proofs.YtipehnojibdfeaaGreat

/- the table of terms: New, Fresh, part, right; the key of what is made. -/
namespace Go.Proofs.YtipehnojibdfeaaGreat
open Go Go.Proofs Go.RowKit

theorem termNew_any (w : World) (M : Nat) : Calls Tryz.prog 35 #[] w fun e w' => ∃ t, e = .returned (.pointer (some ⟨t, 0, none⟩)) ∧ w.heap.size ≤ t ∧ TableAt w' w.heap.size t M [] 0 ∧ Below w.heap.size w w' := by
  have hmm := @run_makeMap Tryz.prog
  have hown := World.ownsMap_made (H := Unit) w Tryz.prog 9 (plainElem Tryz.prog 3)
  go_enter Tryz.func35, Tryz.ntmps35
  go_wp2_with fail
  go_ret
  have hB := Blk.new (w.alloc (.map #[] 0)) 89 #[.slice none 0 0, .map (some w.heap.size), .int .i64 0]
  rw [World.size_alloc] at hB
  refine ⟨_, rfl, by simp, ⟨.slice none 0 0, [], w.heap.size, .map [], hB, World.ownsRow_nil _ _ _ _, by simp, Nat.le_refl _, hown.alloc _, mapIs_empty, fun i x h => by simp at h, fun x h => by simp at h⟩, ((Below.refl _ _).alloc (Nat.le_refl _) _).alloc (by simp) _⟩

set_option maxRecDepth 100000 in
set_option maxHeartbeats 2000000 in
theorem termPart_any (w : World) (base t M : Nat) (T : List Node) (k : Nat) (hT : TableAt w base t M T k) (hb : base ≤ w.heap.size) (hlen : T.length ≤ 100000) (s : List UInt8) (hs : s.length ≤ 100000000) :
    Calls Tryz.prog 143 #[.pointer (some ⟨t, 0, none⟩), .string (bs s)] w fun e w' => e = .returned (.int .i64 ((partN T s).2 : Int)) ∧ TableAt w' base t M (partN T s).1 k ∧ TF base w w' := by
  have hnum := termNumber_any w base t M T k hT hlen (bs s) (by rw [bs_size]; omega)
  rw [bs_list] at hnum
  have hpart : partN T s = match numOf T.length s with | some n => (T, n) | none => putN T (.data s) := rfl
  have hnumI : numI T.length s = match numOf T.length s with | some n => (n : Int) | none => -1 := rfl
  cases hn : numOf T.length s with
  | some n =>
    rw [hn] at hpart hnumI
    simp only at hpart hnumI
    rw [hnumI] at hnum
    have HP : Hid (partN T s = (T, n)) := hpart
    clear hn hpart hnumI
    go_enter Tryz.func143, Tryz.ntmps143
    go_wp2_with fail
    refine hnum.mono ?_
    rintro e w1 ⟨rfl, b1⟩
    go_wp2
    go_ret
    exact ⟨by rw [HP.out]; rfl, by rw [HP.out]; exact hT.later b1, TF.of_below b1 hb⟩
  | none =>
    rw [hn] at hpart hnumI
    simp only at hpart hnumI
    rw [hnumI] at hnum
    have HP : Hid (partN T s = putN T (.data s)) := hpart
    clear hn hpart hnumI
    go_enter Tryz.func143, Tryz.ntmps143
    go_wp2_with fail
    refine hnum.mono ?_
    rintro e w1 ⟨rfl, b1⟩
    have hput := putData_any w1 base t M T k (hT.later b1) (Nat.le_trans hb b1.size) hlen (.data s) (show s.length ≤ _ by omega) (.agg #[.string (bs s)]) rfl (by simp [Node.key]; omega) (dataKey_any w1 s (by omega))
    clear hnum
    go_wp2_with fail
    refine hput.mono ?_
    rintro e w2 ⟨rfl, hT2, q2⟩
    clear hput
    go_wp2
    go_ret
    exact ⟨by rw [HP.out]; rfl, by rw [HP.out]; exact hT2, (TF.of_below b1 hb).trans q2⟩

set_option maxRecDepth 100000 in
set_option maxHeartbeats 2000000 in
theorem termFresh_any (w : World) (base t M : Nat) (T : List Node) (k : Nat) (hT : TableAt w base t M T k) (hb : base ≤ w.heap.size) (hlen : T.length ≤ 60000) (hk : k ≤ 60000) :
    Calls Tryz.prog 57 #[.pointer (some ⟨t, 0, none⟩)] w fun e w' => e = .returned (.string (bs (textL (putN T (.name k)).2))) ∧ TableAt w' base t M (putN T (.name k)).1 (k + 1) ∧ TF base w w' := by
  have hnone := termNone_any w base t M T k hT
  have hT0 := hT
  obtain ⟨lv, xs, m, D, a1, a2, a3, a4, a5, a6, a7, a8⟩ := hT
  obtain ⟨A, c, hlv⟩ := ownsRow_slice a2
  have C0 : w.cell? ⟨t, 0, none⟩ = some (.slice A T.length c) := by rw [← hlv]; exact a1.cell 0
  have C2 : w.cell? ⟨t, 2, none⟩ = some (.int .i64 (k : Int)) := a1.cell 2
  have F2 : w.frozen? ⟨t, 2, none⟩ = false := a1.frozen 2
  obtain ⟨w1, hw1⟩ : ∃ w1, w1 = w.setCell ⟨t, 2, none⟩ (.int .i64 ((k : Int) + 1)) := ⟨_, rfl⟩
  have hg1 : w.grownBy w1 (some t) := by rw [hw1]; exact grownBy_set (grownBy_refl w (some t)) _
  have hq1 : TF base w w1 := TF.of_grown hg1 hb (fun j hj => by cases hj; exact a3) (fun j o hj ho => by cases hj; rw [a1] at ho; cases ho; exact fun h => h.1 rfl)
  have hT1 : TableAt w1 base t M T (k + 1) := by
    have hB1 : Blk w1 t 89 #[lv, .map (some m), .int .i64 ((k : Int) + 1)] := by rw [hw1]; exact a1.set_ 2 _
    refine ⟨lv, xs, m, D, hB1, a2.kept hg1 (.inr (own_blk_ne a2 a1 (by decide))), a3, a4, a5.kept hg1 (fun e => ownsMap_ne_blk a5 a1 (Option.some.inj e)), a6, fun i x hx => ?_, a8⟩
    obtain ⟨v, hv, hn⟩ := a7 i x hx
    exact ⟨v, hv, hn.far_ hq1.2 (fun _ => ⟨by decide, by decide⟩)⟩
  have C21 : w1.cell? ⟨t, 2, none⟩ = some (.int .i64 ((k : Int) + 1)) := by rw [hw1]; exact (a1.set_ 2 _).cell 2
  have hput := putName_any w1 base t M T (k + 1) hT1 (Nat.le_trans hb hg1.size) (by omega) (.name k) (show k ≤ 65536 by omega) (.agg #[.int .i64 (k : Int)]) rfl (by simp [Node.key, numTo_length]) (nameKey_any w1 k (by omega))
  have hle : (putN T (.name k)).2 ≤ T.length := by
    unfold putN
    cases hf : findN T (Node.name k).key with
    | some i => obtain ⟨x, hx, _⟩ := findN_lt hf; have := (List.getElem?_eq_some_iff.1 hx).1; simp only; omega
    | none => simp
  obtain ⟨n, hn⟩ : ∃ n, n = (putN T (.name k)).2 := ⟨_, rfl⟩
  rw [← hn] at hput hle
  have HN : Hid (n = (putN T (.name k)).2) := hn
  have hkd : decide ((65536 : Int) ≤ (T.length : Int)) = false := by rw [decide_eq_false_iff_not]; omega
  have HW1 : Hid (w1 = w.setCell ⟨t, 2, none⟩ (.int .i64 ((k : Int) + 1))) := hw1
  clear hT0 a1 a2 a3 a4 a5 a6 a7 a8 hlv hn hT1 hw1
  go_enter Tryz.func57, Tryz.ntmps57
  go_wp2_with fail
  refine hnone.mono ?_
  rintro e w' ⟨rfl, hw⟩
  rw [hw]
  clear hw w' hnone
  go_wp2_with fail
  rw [← HW1.out]
  refine hput.mono ?_
  rintro e w2 ⟨rfl, hT2, q2⟩
  have htx := text_any w2 n (by omega)
  clear hput C0 C2 F2 C21
  go_wp2_with fail
  refine htx.mono ?_
  rintro e w3 ⟨rfl, b3⟩
  clear htx
  go_wp2
  go_ret
  have q := hq1.trans (q2.trans (TF.of_below b3 (Nat.le_trans hb (Nat.le_trans hg1.size q2.1.size))))
  exact ⟨by rw [← HN.out]; rfl, hT2.later b3, q⟩

set_option maxRecDepth 100000 in
theorem right3_any (w : World) : Calls Tryz.prog 139 #[.int .i64 3, .int .i64 1] w fun e w' => e = .returned (.bool true) ∧ w' = w := by
  go_enter Tryz.func139, Tryz.ntmps139
  go_wp2_with fail
  go_ret
  exact ⟨rfl, rfl⟩
set_option maxRecDepth 100000 in
theorem right4_any (w : World) : Calls Tryz.prog 139 #[.int .i64 4, .int .i64 2] w fun e w' => e = .returned (.bool true) ∧ w' = w := by
  go_enter Tryz.func139, Tryz.ntmps139
  go_wp2_with fail
  go_ret
  exact ⟨rfl, rfl⟩
set_option maxRecDepth 100000 in
theorem right6_any (w : World) : Calls Tryz.prog 139 #[.int .i64 6, .int .i64 4] w fun e w' => e = .returned (.bool true) ∧ w' = w := by
  go_enter Tryz.func139, Tryz.ntmps139
  go_wp2_with fail
  go_ret
  exact ⟨rfl, rfl⟩
set_option maxRecDepth 100000 in
theorem right5_any (w : World) (n : Nat) (hn : n ≤ 100) : Calls Tryz.prog 139 #[.int .i64 5, .int .i64 (n : Int)] w fun e w' => e = .returned (.bool true) ∧ w' = w := by
  go_enter Tryz.func139, Tryz.ntmps139
  go_wp2_with fail
  go_ret
  exact ⟨by simp; omega, rfl⟩
set_option maxRecDepth 100000 in
theorem make1_any (w : World) (s : ByteArray) : Calls Tryz.prog 140 #[.string s] w fun e w' => e = .returned (.bool (decide (65536 < s.size))) ∧ w' = w := by
  go_enter Tryz.func140, Tryz.ntmps140
  go_wp2_with fail
  go_ret
  exact ⟨by simp; omega, rfl⟩

theorem partsL_snoc (a : List Nat) (p : Nat) : ∀ l, partsL l (a ++ [p]) = partsL l a ++ numTo (p : Int) 4 4 := by
  induction a with
  | nil => intro l; rfl
  | cons b a ih => intro l; exact ih _
theorem partsL_length (a : List Nat) : ∀ l, (partsL l a).length = l.length + 4 * a.length := by
  induction a with
  | nil => intro l; rfl
  | cons b a ih => intro l; rw [partsL, ih]; simp [numTo_length]; omega
set_option maxRecDepth 100000 in
set_option maxHeartbeats 4000000 in
theorem madeKey_any (w : World) (base kind n : Nat) (l : List UInt8) (ps : List Nat) (hk : kind < 256) (hn : n < 256) (hl : l.length ≤ 100000000) (hps : ps.length ≤ 1000) (hp : ∀ p ∈ ps, p ≤ 65536) (pv : Value)
    (ho : w.ownsRow base 3 1 pv ps.length (ps.map fun (p : Nat) => .int .i64 (p : Int))) :
    Calls Tryz.prog 154 #[.agg #[.int .i64 (kind : Int), .int .i64 (n : Int), .string (bs l), pv]] w fun e w' => e = .returned (.string (bs (Node.made kind n l ps).key)) ∧ Below w.heap.size w w' := by
  obtain ⟨w1, hw1⟩ : ∃ w1, w1 = w.alloc (.cells #[.int .i64 (kind : Int), .int .i64 (n : Int), .string (bs l), pv] 195) := ⟨_, rfl⟩
  have hB1 : Blk w1 w.heap.size 195 #[.int .i64 (kind : Int), .int .i64 (n : Int), .string (bs l), pv] := by rw [hw1]; exact Blk.new _ _ _
  have b1 : Below w.heap.size w w1 := by rw [hw1]; exact (Below.refl _ _).alloc (Nat.le_refl _) _
  have ho1 := ownsRow_later ho b1
  obtain ⟨A, c, hpv⟩ := ownsRow_slice ho
  subst hpv
  have HW1 : Hid (w1 = w.alloc (.cells #[.int .i64 (kind : Int), .int .i64 (n : Int), .string (bs l), .slice A ps.length c] 195)) := hw1
  clear hw1 ho
  have L0 := later_cell (show w1.cell? ⟨w.heap.size, 0, none⟩ = some (.int .i64 (kind : Int)) from hB1.cell 0)
  have L1 := later_cell (show w1.cell? ⟨w.heap.size, 1, none⟩ = some (.int .i64 (n : Int)) from hB1.cell 1)
  have L2 := later_cell (show w1.cell? ⟨w.heap.size, 2, none⟩ = some (.string (bs l)) from hB1.cell 2)
  go_enter Tryz.func154, Tryz.ntmps154
  go_wp2_with fail
  rw [← HW1.out]
  obtain ⟨k1, hk1⟩ : ∃ k1, k1 = [109] ++ numTo (kind : Int) 1 1 := ⟨_, rfl⟩
  obtain ⟨k2, hk2⟩ : ∃ k2, k2 = k1 ++ numTo (n : Int) 1 1 := ⟨_, rfl⟩
  obtain ⟨k3, hk3⟩ : ∃ k3, k3 = putL k2 l := ⟨_, rfl⟩
  have hl1 : k1.length = 2 := by rw [hk1]; simp [numTo_length]
  have hl2 : k2.length = 3 := by rw [hk2]; simp [numTo_length, hl1]
  have hl3 : k3.length = 7 + l.length := by rw [hk3, putL_length, hl2]
  have h1 : ∀ W, Calls Tryz.prog 32 #[.string ⟨#[109]⟩, .int .i64 1, .int .u64 (kind : Int)] W fun e w' => e = .returned (.string (bs k1)) ∧ Below W.heap.size W w' := fun W => by
    rw [hk1]; exact putNumber_any W ⟨#[109]⟩ 1 (kind : Int) (by omega) (by omega) (by decide) (by omega) (by omega)
  have h2 : ∀ W, Calls Tryz.prog 32 #[.string (bs k1), .int .i64 1, .int .u64 (n : Int)] W fun e w' => e = .returned (.string (bs k2)) ∧ Below W.heap.size W w' := fun W => by
    rw [hk2]; exact putNumber_any W (bs k1) 1 (n : Int) (by omega) (by omega) (by rw [bs_size, hl1]; omega) (by omega) (by omega)
  have h3 : ∀ W, Calls Tryz.prog 88 #[.string (bs k2), .string (bs l)] W fun e w' => e = .returned (.string (bs k3)) ∧ Below W.heap.size W w' := fun W => by
    rw [hk3]; exact putText_any W (bs k2) (bs l) (by rw [bs_size, hl2]; omega) (by rw [bs_size]; omega)
  have HK : Hid (Node.key (.made kind n l ps) = partsL k3 ps) := by
    show Node.key (.made kind n l ps) = partsL k3 ps
    rw [hk3, hk2, hk1]; rfl
  obtain ⟨t1, ht1⟩ : ∃ t1, t1 = bs k1 := ⟨_, rfl⟩
  obtain ⟨t2, ht2⟩ : ∃ t2, t2 = bs k2 := ⟨_, rfl⟩
  obtain ⟨t3, ht3⟩ : ∃ t3, t3 = bs k3 := ⟨_, rfl⟩
  obtain ⟨tl, htl⟩ : ∃ tl, tl = bs l := ⟨_, rfl⟩
  have HT3 : Hid (t3 = bs k3) := ht3
  rw [← ht1] at h1 h2
  rw [← ht2] at h2 h3
  rw [← ht3, ← htl] at h3
  rw [← htl] at L2 ⊢
  have HB3 : Hid (w1.cell? ⟨w.heap.size, 3, none⟩ = some (.slice A ps.length c)) := hB1.cell 3
  clear hk1 hk2 hk3 hl1 hl2 ht1 ht2 ht3 htl hB1
  refine wp_region_later (by kernel_rfl) (by kernel_rfl) ?_
  iterate 3 (go_big_quiet_step (fail))
  go_big_quiet_step ((go_at_call 32; exact later_of (h1 _)))
  iterate 3 (go_big_quiet_step (fail))
  go_big_quiet_step ((go_at_call 32; exact later_of (h2 _)))
  iterate 2 (go_big_quiet_step (fail))
  go_big_quiet_step ((go_at_call 88; exact later_of (h3 _)))
  go_big_quiet_step (fail)
  refine wpQuiet_nil ?_
  intro _ hw'
  obtain ⟨x, hw''⟩ := hw'
  subst hw''
  have hbw1 : Hid (w1.heap.size ≤ x.v.heap.size) := x.h.size
  have b2 := b1.trans (x.h.mono b1.size)
  have hR := (Reads.of_own ho1).below x.h
  have C3 : x.v.cell? ⟨w.heap.size, 3, none⟩ = some (.slice A ps.length c) := Below.cell_some x.h HB3.out
  clear L0 L1 L2 h1 h2 h3 ho1 HW1
  obtain ⟨we, x⟩ := x
  simp only at *
  clear x
  go_wp2_with fail
  go_loopw [3, 20] (fun s i wr => ∃ k : Nat, k ≤ ps.length ∧ i = .int .i64 k ∧ s = .string (bs (partsL k3 (ps.take k))) ∧ Below w1.heap.size we wr ∧ Below w.heap.size w wr) (fun _ i _ => ps.length - (intOf i).toNat)
  case atStart => exact ⟨0, by omega, rfl, by rw [HT3.out]; rfl, Below.refl _ _, b2⟩
  case round =>
    obtain ⟨k, hk', rfl, rfl, hbr, hbw⟩ := hrel
    by_cases hkn : k < ps.length
    · have hkd : decide ((k : Int) < (ps.length : Int)) = true := by simp; omega
      obtain ⟨bk, o, hA, hbk, hcell⟩ := (hR.below hbr).addr (by omega)
      subst hA
      have hc := hcell k (.int .i64 (ps[k] : Nat)) (by simp [hkn])
      have HPP : Hid (partsL k3 (ps.take (k + 1)) = partsL k3 (ps.take k) ++ numTo (ps[k] : Nat) 4 4) := by
        show partsL k3 (ps.take (k + 1)) = _
        rw [List.take_succ_eq_append_getElem hkn, partsL_snoc]
      have hpk := hp ps[k] (List.getElem_mem hkn)
      have hlen := partsL_length (ps.take k) k3
      have hlt : (ps.take k).length ≤ 1000 := by rw [List.length_take]; omega
      have hput := putNumber_any wr (bs (partsL k3 (ps.take k))) 4 (ps[k] : Nat) (by omega) (by omega) (by rw [bs_size]; omega) (by omega) (by omega)
      clear hcell
      go_wp2_with fail
      refine hput.mono ?_
      rintro e w' ⟨rfl, b3⟩
      clear hput
      go_wp2
      go_roundw
      case rel => exact ⟨k + 1, by omega, by go_num, by rw [HPP.out]; rfl, hbr.trans (b3.mono (Nat.le_trans hbw1.out hbr.size)), hbw.trans (b3.mono hbw.size)⟩
      case measure => simp [intOf]; omega
    · have hkd : decide ((k : Int) < (ps.length : Int)) = false := by simp; omega
      obtain rfl : k = ps.length := by omega
      rw [List.take_length]
      go_wp2
      go_ret
      exact ⟨by rw [HK.out]; rfl, hbw⟩
end Go.Proofs.YtipehnojibdfeaaGreat
