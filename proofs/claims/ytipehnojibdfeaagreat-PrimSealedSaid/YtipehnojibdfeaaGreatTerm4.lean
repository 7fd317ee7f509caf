/- the table of terms: put. -/
import Derived.Test.YtipehnojibdfeaaGreatTerm3
import Derived.Deep.RegionLaw
namespace Go.Proofs.YtipehnojibdfeaaGreat
open Go Go.Proofs Go.RowKit Go.Maps Go.WideMaps

theorem step_mapUpdate_own {H : Type} {P : Program} {ops : Array Oper} {o : Oper} {a : Act} {w : World} {K : Act → World → Prop} {Q : Exit → Act → World → Prop} {E : Prop}
    (hg : o.guard = none) (m x v : Operand) (t : TypeId) (hop : o.op = Op.mapUpdate t m x v)
    (k e : TypeId) (KL : Keyed P k) (ht : P.underlying t = some (.map k e)) (R : Value → Option (DataW H × List MemPlace)) (b n : Nat) (D : DataW H)
    (hm : a.eval m = .map (some b)) (hown : w.ownsMap P k R b n D) (hn : n < maxLen) (key val : Value) (kl : Lit) (hx : a.eval x = key) (hv : a.eval v = val) (hkey : keyOf P k key = some kl)
    (d : DataW H) (ps : List MemPlace) (hval : R val = some (d, ps))
    (hK : ∀ w', w'.ownsMap P k R b (n + 1) (D.put kl d) → w.grownBy w' (some b) → K (a.put o.dst undef) w') :
    if Region.wanted o (yielded ops a.tmps) = true then Oper.wp P o a w K Q else E := by
  have hw : Region.wanted o (yielded ops a.tmps) = true := by simp [Region.wanted, hg]
  rw [if_pos hw]
  obtain ⟨w', hrun, r1, r2⟩ := hown.update KL ht hn hkey hval
  unfold Oper.wp
  simp [execOp, hop, hm, hx, hv, hrun, Result.andThen]
  exact hK w' r1 r2

theorem nodeInfo0 : ((Tryz.prog.info? 199).map fun i => (i.size, i.bytes, i.zero.map (·.cells.size))) = some (1, 16, some 1) := by kernel_rfl
theorem nodeInfo : ∃ i z, Tryz.prog.info? 199 = some i ∧ i.zero = some z ∧ i.size = 1 ∧ i.bytes = 16 ∧ z.cells.size = 1 := by
  have h := nodeInfo0
  cases hi : Tryz.prog.info? 199 with
  | none => rw [hi] at h; simp at h
  | some i =>
    rw [hi] at h
    simp at h
    obtain ⟨h1, h2, z, hz, h3⟩ := h
    exact ⟨i, z, rfl, hz, h1, h2, h3⟩
theorem keyLaw : Keyed Tryz.prog 9 := string_keyed Tryz.underlying9
theorem zeroInt (w : World) : (zeroValue 3).run Tryz.prog w = .ok (.int .i64 0) w := by kernel_rfl

theorem ownsMap_ne_blk {H : Type} {P : Program} {k : TypeId} {R : Value → Option (DataW H × List MemPlace)} {b n g : Nat} {D : DataW H} {w : World} {ty : TypeId} {cs : Array Value} (h : w.ownsMap P k R b n D) (hg : Blk w g ty cs) : b ≠ g := by
  obtain ⟨es, cl, hh, _⟩ := h
  rintro rfl
  rw [Blk, hh] at hg; cases hg
theorem ownsMap_ne_row {H : Type} {P : Program} {k : TypeId} {R : Value → Option (DataW H × List MemPlace)} {b n m size base : Nat} {D : DataW H} {w : World} {e : TypeId} {v : Value} {xs : List Value} (h : w.ownsMap P k R b n D) (hv : w.ownsRow base e size v m xs) : v.ownBlock ≠ some b := by
  obtain ⟨es, cl, hh, _⟩ := h
  intro hb
  obtain ⟨cs, ho⟩ := ownsRow_obj hv hb hh
  cases ho
set_option maxRecDepth 100000 in
set_option maxHeartbeats 4000000 in
theorem putName_any (w : World) (base t M : Nat) (T : List Node) (names : Nat) (hT : TableAt w base t M T names) (hb : base ≤ w.heap.size) (hlen : T.length ≤ 100000) (x : Node) (hx : x.small)
    (av : Value) (hv : NodeAt w base M x (.iface 190 av)) (hkl : x.key.length ≤ 100000000000000)
    (hkey : Calls Tryz.prog 153 #[av] w fun e w' => e = .returned (.string (bs x.key)) ∧ Below w.heap.size w w') :
    Calls Tryz.prog 138 #[.pointer (some ⟨t, 0, none⟩), .iface 190 av] w fun e w' => e = .returned (.int .i64 ((putN T x).2 : Int)) ∧ TableAt w' base t M (putN T x).1 names ∧ TF base w w' := by
  have hmeet : ∀ (n : Nat) (W : World), (method (n + 1) 190 av "missive/term.key").run Tryz.prog W = .ok (153, av) W := by intro n W; kernel_rfl
  go_enter Tryz.func138, Tryz.ntmps138
  go_wp2_with fail
  refine hkey.mono ?_
  rintro e w1 ⟨rfl, b1⟩
  have hT1 := hT.later b1
  have q1 : TF base w w1 := TF.of_below b1 hb
  have hv1 : NodeAt w1 base M x (.iface 190 av) := hv.far_ (Q := fun _ => True) (Far.of_below b1) (fun _ => trivial)
  clear hT hv hkey hmeet
  obtain ⟨lv, xs, m, D, a1, a2, a3, a4, a5, a6, a7, a8⟩ := hT1
  obtain ⟨A, c, hlv⟩ := ownsRow_slice a2
  have C1 : w1.cell? ⟨t, 1, none⟩ = some (.map (some m)) := a1.cell 1
  have hkey : keyOf Tryz.prog 9 (.string (bs x.key)) = some (.string x.key) := keyOf_string_mk Tryz.underlying9 (by rw [bs_size]; unfold maxLen; omega)
  have hmap := a6.2 x.key
  have hput : putN T x = match findN T x.key with | some i => (T, i) | none => (T ++ [x], T.length) := rfl
  have C0 : w1.cell? ⟨t, 0, none⟩ = some (.slice A T.length c) := by rw [← hlv]; exact a1.cell 0
  have F0 : w1.frozen? ⟨t, 0, none⟩ = false := a1.frozen 0
  cases hf : findN T x.key with
  | some i =>
    rw [hf] at hmap hput
    obtain ⟨h1, h2⟩ := hmap
    go_wp2_with (at_lookup; refine wpList_lookup_own_ok_int _ rfl _ _ 86 rfl 9 3 .i64 keyLaw Tryz.underlying86 Tryz.underlying3 (zeroInt _) m T.length D rfl a5 _ _ rfl hkey ?_; intro cc hat hwc)
    go_ret
    rw [h2] at hat
    cases hat
    rw [hput]
    exact ⟨rfl, ⟨lv, xs, m, D, a1, a2, a3, a4, a5, a6, a7, a8⟩, q1⟩
  | none =>
    rw [hf] at hmap hput
    have hmis : Maps.has D (.string x.key) = false := hmap
    have HMAP : Hid (MapIs (T ++ [x]) (D.put (.string x.key) (.lit (.int .i64 (T.length : Int))))) := a6.put x hf
    have hT1 : TableAt w1 base t M T names := ⟨lv, xs, m, D, a1, a2, a3, a4, a5, a6, a7, a8⟩
    obtain ⟨iN, zN, hiN, hzN, hsN, hbyN, hzsN⟩ := nodeInfo
    have hbw1 : base ≤ w1.heap.size := Nat.le_trans hb b1.size
    have hnews : ∀ (j : Nat) (u : Value), [Value.iface 190 av][j]? = some u → (w1.alloc (.cells #[.iface 190 av] 199)).cell? ((⟨w1.heap.size, 0, none⟩ : Addr).add j) = some u := by
      intro j u hj
      match j, hj with
      | 0, hj => simp at hj; subst hj; exact (Blk.new w1 _ _).cell 0
    have h1c : ∀ u ∈ [Value.iface 190 av], u.oneCell' = true := by intro u hu; simp at hu; subst hu; rfl
    go_wp2_with (first | (at_lookup; refine wpList_lookup_own_ok_int _ rfl _ _ 86 rfl 9 3 .i64 keyLaw Tryz.underlying86 Tryz.underlying3 (zeroInt _) m T.length D rfl a5 _ _ rfl hkey ?_; intro cc hat hwc) | (at_builtin; refine wpList_append_own _ rfl _ _ 87 rfl base 199 iN zN 1 16 Tryz.underlying87 hiN hzN hsN hbyN hzsN (by decide) _ T.length xs (by rw [hlv]; rfl) (a2.alloc _) ⟨w1.heap.size, 0, none⟩ 1 1 [.iface 190 av] rfl rfl hnews h1c (by unfold maxLen; omega) (by omega) (by simp; omega) ?_; intro lv2 w2 hown2 hgrow2 hnil2; obtain ⟨A2, c2, hlv2⟩ := ownsRow_slice hown2; subst hlv2; have hB2 := (a1.alloc _).grown hgrow2 (fun e => own_blk_ne a2 a1 (by decide) e.symm); have F2 : w2.frozen? ⟨t, 0, none⟩ = false := hB2.frozen 0; have C2 : w2.cell? ⟨t, 0, none⟩ = some lv := hB2.cell 0))
    have hmt : m ≠ t := ownsMap_ne_blk a5 a1
    have hM2 := (a5.alloc (.cells #[.iface 190 av] 199)).kept hgrow2 (fun e => ownsMap_ne_row a5 a2 e.symm)
    obtain ⟨w3, hw3⟩ : ∃ w3, w3 = w2.setCell ⟨t, 0, none⟩ (.slice A2 (T.length + 1) c2) := ⟨_, rfl⟩
    have hB3 : Blk w3 t 89 #[.slice A2 (T.length + 1) c2, .map (some m), .int .i64 (names : Int)] := by rw [hw3]; exact hB2.set_ 0 _
    have hM3 : w3.ownsMap Tryz.prog 9 (plainElem Tryz.prog 3) m T.length D := by rw [hw3]; exact hM2.setCell hmt _
    have hne3 : (Value.slice A2 (T.length + 1) c2).ownBlock ≠ some t := own_blk_ne hown2 hB2 (by decide)
    have hO3 : w3.ownsRow base 199 1 (.slice A2 (T.length + 1) c2) (T.length + 1) (xs ++ [.iface 190 av]) := by rw [hw3]; exact hown2.kept (grownBy_set (grownBy_refl _ _) _) (.inr hne3)
    have q2 : TF base w w2 := (q1.trans (TF.of_below ((Below.refl _ _).alloc (Nat.le_refl _) _) hbw1)).trans (TF.of_grown hgrow2 (by simp; omega) (fun k hk => a2.ownBlock_ge hk) (fun k o hk ho => by
      obtain ⟨cs, ho2⟩ := ownsRow_obj (a2.alloc _) hk ho
      rw [ho2]; exact fun h => h.2 rfl))
    have q3 : TF base w w3 := by
      rw [hw3]
      exact q2.trans (TF.of_grown (grownBy_set (grownBy_refl w2 (some t)) _) (Nat.le_trans hbw1 (by have := hgrow2.size; simp at this; omega)) (fun k hk => by cases hk; exact a3) (fun k o hk ho => by
        cases hk; rw [hB2] at ho; cases ho; exact fun h => h.1 rfl))
    rw [← hw3]
    have C30 : w3.cell? ⟨t, 0, none⟩ = some (.slice A2 (T.length + 1) c2) := hB3.cell 0
    have C31 : w3.cell? ⟨t, 1, none⟩ = some (.map (some m)) := hB3.cell 1
    have HX : Hid (∀ w4 : World, w3.grownBy w4 (some m) → w4.ownsMap Tryz.prog 9 (plainElem Tryz.prog 3) m (T.length + 1) (D.put (.string x.key) (.lit (.int .i64 (T.length : Int)))) → TableAt w4 base t M (T ++ [x]) names ∧ TF base w w4) := by
      intro w4 hg4 hm4
      have hf4 : TF base w3 w4 := TF.of_grown hg4 (Nat.le_trans hb q3.1.size) (fun k hk => by cases hk; exact a4) (fun k o hk ho => by
        cases hk
        obtain ⟨es, cl, hh, _⟩ := hM3
        rw [hh] at ho; cases ho; exact fun h => h)
      have hq4 : TF base w w4 := q3.trans hf4
      have hfar1 : Far notTable w1 w4 := by
        have h12 : Far notTable w1 w2 := ((Far.of_below ((Below.refl w1.heap.size w1).alloc (Nat.le_refl _) _)).trans (Far.of_grown hgrow2 (fun k o hk ho => by
          obtain ⟨cs, ho2⟩ := ownsRow_obj (a2.alloc _) hk ho
          rw [ho2]; exact fun h => h.2 rfl)))
        have h23 : Far notTable w2 w3 := by
          rw [hw3]
          exact Far.of_grown (grownBy_set (grownBy_refl w2 (some t)) _) (fun k o hk ho => by cases hk; rw [hB2] at ho; cases ho; exact fun h => h.1 rfl)
        exact (h12.trans h23).trans hf4.2
      refine ⟨⟨_, xs ++ [.iface 190 av], m, _, hB3.grown hg4 (fun e => hmt (Option.some.inj e).symm), ?_, a3, a4, ?_, HMAP.out, ?_, ?_⟩, hq4⟩
      · rw [List.length_append, List.length_singleton]
        exact hO3.kept hg4 (.inr (fun e => ownsMap_ne_row hM3 hO3 e))
      · rw [List.length_append, List.length_singleton]; exact hm4
      · intro i y hy
        rcases Nat.lt_or_ge i T.length with hlt | hge
        · rw [List.getElem?_append_left hlt] at hy
          obtain ⟨v, hv, hn⟩ := a7 i y hy
          exact ⟨v, by rw [List.getElem?_append_left (List.getElem?_eq_some_iff.1 hv).1]; exact hv, hn.far_ hfar1 (fun _ => ⟨by decide, by decide⟩)⟩
        · rw [List.getElem?_append_right hge] at hy
          have hxl : xs.length = T.length := by have := a2.1; simpa using this
          have hi0 : i - T.length = 0 := by
            rcases Nat.eq_zero_or_pos (i - T.length) with h | h
            · exact h
            · rw [List.getElem?_eq_none (by simp; omega)] at hy; cases hy
          rw [hi0] at hy
          simp at hy
          subst hy
          exact ⟨_, by rw [List.getElem?_append_right (by omega), hxl, hi0]; rfl, hv1.far_ hfar1 (fun _ => ⟨by decide, by decide⟩)⟩
      · intro y hy
        rcases List.mem_append.1 hy with h | h
        · exact a8 y h
        · simp at h; subst h; exact hx
    clear hw3 q1 q2 q3 hB2 F2 C2 hM2 a1 a2 a3 a4 a5 a6 a7 a8 hT1 hv1 hown2 hgrow2 hnil2 HMAP hnews h1c hmap hat hwc C0 C1 F0 hiN hzN hsN hbyN hzsN hlv b1
    have hwr : IntKind.i64.wrap (T.length : Int) = (T.length : Int) := by rw [IntKind.wrap_i64]; omega
    have hval : plainElem (H := Unit) Tryz.prog 3 (.int .i64 (T.length : Int)) = some (.lit (.int .i64 (T.length : Int)), []) := plainElem_int Tryz.underlying3 (WalkArith.wf_i64 (by omega))
    have hM3d : w3.drew.ownsMap Tryz.prog 9 (plainElem Tryz.prog 3) m T.length D := hM3
    obtain ⟨w4, hrun, hown4, hgrow4⟩ := hM3d.update keyLaw Tryz.underlying86 (by unfold maxLen; omega) hkey hval
    have C4 : w4.cell? ⟨t, 0, none⟩ = some (.slice A2 (T.length + 1) c2) := (hB3.drew.grown hgrow4 (fun e => hmt (Option.some.inj e).symm)).cell 0
    clear hB3 hM3 hO3
    go_region
    all_goals (go_wp2; go_ret; rw [hput]; exact ⟨rfl, HX.out w4 ⟨hgrow4.os, hgrow4.tape, hgrow4.output, hgrow4.size, hgrow4.block⟩ hown4⟩)
set_option maxRecDepth 100000 in
set_option maxHeartbeats 4000000 in
theorem putData_any (w : World) (base t M : Nat) (T : List Node) (names : Nat) (hT : TableAt w base t M T names) (hb : base ≤ w.heap.size) (hlen : T.length ≤ 100000) (x : Node) (hx : x.small)
    (av : Value) (hv : NodeAt w base M x (.iface 201 av)) (hkl : x.key.length ≤ 100000000000000)
    (hkey : Calls Tryz.prog 155 #[av] w fun e w' => e = .returned (.string (bs x.key)) ∧ Below w.heap.size w w') :
    Calls Tryz.prog 138 #[.pointer (some ⟨t, 0, none⟩), .iface 201 av] w fun e w' => e = .returned (.int .i64 ((putN T x).2 : Int)) ∧ TableAt w' base t M (putN T x).1 names ∧ TF base w w' := by
  have hmeet : ∀ (n : Nat) (W : World), (method (n + 1) 201 av "missive/term.key").run Tryz.prog W = .ok (155, av) W := by intro n W; kernel_rfl
  go_enter Tryz.func138, Tryz.ntmps138
  go_wp2_with fail
  refine hkey.mono ?_
  rintro e w1 ⟨rfl, b1⟩
  have hT1 := hT.later b1
  have q1 : TF base w w1 := TF.of_below b1 hb
  have hv1 : NodeAt w1 base M x (.iface 201 av) := hv.far_ (Q := fun _ => True) (Far.of_below b1) (fun _ => trivial)
  clear hT hv hkey hmeet
  obtain ⟨lv, xs, m, D, a1, a2, a3, a4, a5, a6, a7, a8⟩ := hT1
  obtain ⟨A, c, hlv⟩ := ownsRow_slice a2
  have C1 : w1.cell? ⟨t, 1, none⟩ = some (.map (some m)) := a1.cell 1
  have hkey : keyOf Tryz.prog 9 (.string (bs x.key)) = some (.string x.key) := keyOf_string_mk Tryz.underlying9 (by rw [bs_size]; unfold maxLen; omega)
  have hmap := a6.2 x.key
  have hput : putN T x = match findN T x.key with | some i => (T, i) | none => (T ++ [x], T.length) := rfl
  have C0 : w1.cell? ⟨t, 0, none⟩ = some (.slice A T.length c) := by rw [← hlv]; exact a1.cell 0
  have F0 : w1.frozen? ⟨t, 0, none⟩ = false := a1.frozen 0
  cases hf : findN T x.key with
  | some i =>
    rw [hf] at hmap hput
    obtain ⟨h1, h2⟩ := hmap
    go_wp2_with (at_lookup; refine wpList_lookup_own_ok_int _ rfl _ _ 86 rfl 9 3 .i64 keyLaw Tryz.underlying86 Tryz.underlying3 (zeroInt _) m T.length D rfl a5 _ _ rfl hkey ?_; intro cc hat hwc)
    go_ret
    rw [h2] at hat
    cases hat
    rw [hput]
    exact ⟨rfl, ⟨lv, xs, m, D, a1, a2, a3, a4, a5, a6, a7, a8⟩, q1⟩
  | none =>
    rw [hf] at hmap hput
    have hmis : Maps.has D (.string x.key) = false := hmap
    have HMAP : Hid (MapIs (T ++ [x]) (D.put (.string x.key) (.lit (.int .i64 (T.length : Int))))) := a6.put x hf
    have hT1 : TableAt w1 base t M T names := ⟨lv, xs, m, D, a1, a2, a3, a4, a5, a6, a7, a8⟩
    obtain ⟨iN, zN, hiN, hzN, hsN, hbyN, hzsN⟩ := nodeInfo
    have hbw1 : base ≤ w1.heap.size := Nat.le_trans hb b1.size
    have hnews : ∀ (j : Nat) (u : Value), [Value.iface 201 av][j]? = some u → (w1.alloc (.cells #[.iface 201 av] 199)).cell? ((⟨w1.heap.size, 0, none⟩ : Addr).add j) = some u := by
      intro j u hj
      match j, hj with
      | 0, hj => simp at hj; subst hj; exact (Blk.new w1 _ _).cell 0
    have h1c : ∀ u ∈ [Value.iface 201 av], u.oneCell' = true := by intro u hu; simp at hu; subst hu; rfl
    go_wp2_with (first | (at_lookup; refine wpList_lookup_own_ok_int _ rfl _ _ 86 rfl 9 3 .i64 keyLaw Tryz.underlying86 Tryz.underlying3 (zeroInt _) m T.length D rfl a5 _ _ rfl hkey ?_; intro cc hat hwc) | (at_builtin; refine wpList_append_own _ rfl _ _ 87 rfl base 199 iN zN 1 16 Tryz.underlying87 hiN hzN hsN hbyN hzsN (by decide) _ T.length xs (by rw [hlv]; rfl) (a2.alloc _) ⟨w1.heap.size, 0, none⟩ 1 1 [.iface 201 av] rfl rfl hnews h1c (by unfold maxLen; omega) (by omega) (by simp; omega) ?_; intro lv2 w2 hown2 hgrow2 hnil2; obtain ⟨A2, c2, hlv2⟩ := ownsRow_slice hown2; subst hlv2; have hB2 := (a1.alloc _).grown hgrow2 (fun e => own_blk_ne a2 a1 (by decide) e.symm); have F2 : w2.frozen? ⟨t, 0, none⟩ = false := hB2.frozen 0; have C2 : w2.cell? ⟨t, 0, none⟩ = some lv := hB2.cell 0))
    have hmt : m ≠ t := ownsMap_ne_blk a5 a1
    have hM2 := (a5.alloc (.cells #[.iface 201 av] 199)).kept hgrow2 (fun e => ownsMap_ne_row a5 a2 e.symm)
    obtain ⟨w3, hw3⟩ : ∃ w3, w3 = w2.setCell ⟨t, 0, none⟩ (.slice A2 (T.length + 1) c2) := ⟨_, rfl⟩
    have hB3 : Blk w3 t 89 #[.slice A2 (T.length + 1) c2, .map (some m), .int .i64 (names : Int)] := by rw [hw3]; exact hB2.set_ 0 _
    have hM3 : w3.ownsMap Tryz.prog 9 (plainElem Tryz.prog 3) m T.length D := by rw [hw3]; exact hM2.setCell hmt _
    have hne3 : (Value.slice A2 (T.length + 1) c2).ownBlock ≠ some t := own_blk_ne hown2 hB2 (by decide)
    have hO3 : w3.ownsRow base 199 1 (.slice A2 (T.length + 1) c2) (T.length + 1) (xs ++ [.iface 201 av]) := by rw [hw3]; exact hown2.kept (grownBy_set (grownBy_refl _ _) _) (.inr hne3)
    have q2 : TF base w w2 := (q1.trans (TF.of_below ((Below.refl _ _).alloc (Nat.le_refl _) _) hbw1)).trans (TF.of_grown hgrow2 (by simp; omega) (fun k hk => a2.ownBlock_ge hk) (fun k o hk ho => by
      obtain ⟨cs, ho2⟩ := ownsRow_obj (a2.alloc _) hk ho
      rw [ho2]; exact fun h => h.2 rfl))
    have q3 : TF base w w3 := by
      rw [hw3]
      exact q2.trans (TF.of_grown (grownBy_set (grownBy_refl w2 (some t)) _) (Nat.le_trans hbw1 (by have := hgrow2.size; simp at this; omega)) (fun k hk => by cases hk; exact a3) (fun k o hk ho => by
        cases hk; rw [hB2] at ho; cases ho; exact fun h => h.1 rfl))
    rw [← hw3]
    have C30 : w3.cell? ⟨t, 0, none⟩ = some (.slice A2 (T.length + 1) c2) := hB3.cell 0
    have C31 : w3.cell? ⟨t, 1, none⟩ = some (.map (some m)) := hB3.cell 1
    have HX : Hid (∀ w4 : World, w3.grownBy w4 (some m) → w4.ownsMap Tryz.prog 9 (plainElem Tryz.prog 3) m (T.length + 1) (D.put (.string x.key) (.lit (.int .i64 (T.length : Int)))) → TableAt w4 base t M (T ++ [x]) names ∧ TF base w w4) := by
      intro w4 hg4 hm4
      have hf4 : TF base w3 w4 := TF.of_grown hg4 (Nat.le_trans hb q3.1.size) (fun k hk => by cases hk; exact a4) (fun k o hk ho => by
        cases hk
        obtain ⟨es, cl, hh, _⟩ := hM3
        rw [hh] at ho; cases ho; exact fun h => h)
      have hq4 : TF base w w4 := q3.trans hf4
      have hfar1 : Far notTable w1 w4 := by
        have h12 : Far notTable w1 w2 := ((Far.of_below ((Below.refl w1.heap.size w1).alloc (Nat.le_refl _) _)).trans (Far.of_grown hgrow2 (fun k o hk ho => by
          obtain ⟨cs, ho2⟩ := ownsRow_obj (a2.alloc _) hk ho
          rw [ho2]; exact fun h => h.2 rfl)))
        have h23 : Far notTable w2 w3 := by
          rw [hw3]
          exact Far.of_grown (grownBy_set (grownBy_refl w2 (some t)) _) (fun k o hk ho => by cases hk; rw [hB2] at ho; cases ho; exact fun h => h.1 rfl)
        exact (h12.trans h23).trans hf4.2
      refine ⟨⟨_, xs ++ [.iface 201 av], m, _, hB3.grown hg4 (fun e => hmt (Option.some.inj e).symm), ?_, a3, a4, ?_, HMAP.out, ?_, ?_⟩, hq4⟩
      · rw [List.length_append, List.length_singleton]
        exact hO3.kept hg4 (.inr (fun e => ownsMap_ne_row hM3 hO3 e))
      · rw [List.length_append, List.length_singleton]; exact hm4
      · intro i y hy
        rcases Nat.lt_or_ge i T.length with hlt | hge
        · rw [List.getElem?_append_left hlt] at hy
          obtain ⟨v, hv, hn⟩ := a7 i y hy
          exact ⟨v, by rw [List.getElem?_append_left (List.getElem?_eq_some_iff.1 hv).1]; exact hv, hn.far_ hfar1 (fun _ => ⟨by decide, by decide⟩)⟩
        · rw [List.getElem?_append_right hge] at hy
          have hxl : xs.length = T.length := by have := a2.1; simpa using this
          have hi0 : i - T.length = 0 := by
            rcases Nat.eq_zero_or_pos (i - T.length) with h | h
            · exact h
            · rw [List.getElem?_eq_none (by simp; omega)] at hy; cases hy
          rw [hi0] at hy
          simp at hy
          subst hy
          exact ⟨_, by rw [List.getElem?_append_right (by omega), hxl, hi0]; rfl, hv1.far_ hfar1 (fun _ => ⟨by decide, by decide⟩)⟩
      · intro y hy
        rcases List.mem_append.1 hy with h | h
        · exact a8 y h
        · simp at h; subst h; exact hx
    clear hw3 q1 q2 q3 hB2 F2 C2 hM2 a1 a2 a3 a4 a5 a6 a7 a8 hT1 hv1 hown2 hgrow2 hnil2 HMAP hnews h1c hmap hat hwc C0 C1 F0 hiN hzN hsN hbyN hzsN hlv b1
    have hwr : IntKind.i64.wrap (T.length : Int) = (T.length : Int) := by rw [IntKind.wrap_i64]; omega
    have hval : plainElem (H := Unit) Tryz.prog 3 (.int .i64 (T.length : Int)) = some (.lit (.int .i64 (T.length : Int)), []) := plainElem_int Tryz.underlying3 (WalkArith.wf_i64 (by omega))
    have hM3d : w3.drew.ownsMap Tryz.prog 9 (plainElem Tryz.prog 3) m T.length D := hM3
    obtain ⟨w4, hrun, hown4, hgrow4⟩ := hM3d.update keyLaw Tryz.underlying86 (by unfold maxLen; omega) hkey hval
    have C4 : w4.cell? ⟨t, 0, none⟩ = some (.slice A2 (T.length + 1) c2) := (hB3.drew.grown hgrow4 (fun e => hmt (Option.some.inj e).symm)).cell 0
    clear hB3 hM3 hO3
    go_region
    all_goals (go_wp2; go_ret; rw [hput]; exact ⟨rfl, HX.out w4 ⟨hgrow4.os, hgrow4.tape, hgrow4.output, hgrow4.size, hgrow4.block⟩ hown4⟩)
set_option maxRecDepth 100000 in
set_option maxHeartbeats 4000000 in
theorem putMade_any (w : World) (base t M : Nat) (T : List Node) (names : Nat) (hT : TableAt w base t M T names) (hb : base ≤ w.heap.size) (hlen : T.length ≤ 100000) (x : Node) (hx : x.small)
    (av : Value) (hv : NodeAt w base M x (.iface 195 av)) (hkl : x.key.length ≤ 100000000000000)
    (hkey : Calls Tryz.prog 154 #[av] w fun e w' => e = .returned (.string (bs x.key)) ∧ Below w.heap.size w w') :
    Calls Tryz.prog 138 #[.pointer (some ⟨t, 0, none⟩), .iface 195 av] w fun e w' => e = .returned (.int .i64 ((putN T x).2 : Int)) ∧ TableAt w' base t M (putN T x).1 names ∧ TF base w w' := by
  have hmeet : ∀ (n : Nat) (W : World), (method (n + 1) 195 av "missive/term.key").run Tryz.prog W = .ok (154, av) W := by intro n W; kernel_rfl
  go_enter Tryz.func138, Tryz.ntmps138
  go_wp2_with fail
  refine hkey.mono ?_
  rintro e w1 ⟨rfl, b1⟩
  have hT1 := hT.later b1
  have q1 : TF base w w1 := TF.of_below b1 hb
  have hv1 : NodeAt w1 base M x (.iface 195 av) := hv.far_ (Q := fun _ => True) (Far.of_below b1) (fun _ => trivial)
  clear hT hv hkey hmeet
  obtain ⟨lv, xs, m, D, a1, a2, a3, a4, a5, a6, a7, a8⟩ := hT1
  obtain ⟨A, c, hlv⟩ := ownsRow_slice a2
  have C1 : w1.cell? ⟨t, 1, none⟩ = some (.map (some m)) := a1.cell 1
  have hkey : keyOf Tryz.prog 9 (.string (bs x.key)) = some (.string x.key) := keyOf_string_mk Tryz.underlying9 (by rw [bs_size]; unfold maxLen; omega)
  have hmap := a6.2 x.key
  have hput : putN T x = match findN T x.key with | some i => (T, i) | none => (T ++ [x], T.length) := rfl
  have C0 : w1.cell? ⟨t, 0, none⟩ = some (.slice A T.length c) := by rw [← hlv]; exact a1.cell 0
  have F0 : w1.frozen? ⟨t, 0, none⟩ = false := a1.frozen 0
  cases hf : findN T x.key with
  | some i =>
    rw [hf] at hmap hput
    obtain ⟨h1, h2⟩ := hmap
    go_wp2_with (at_lookup; refine wpList_lookup_own_ok_int _ rfl _ _ 86 rfl 9 3 .i64 keyLaw Tryz.underlying86 Tryz.underlying3 (zeroInt _) m T.length D rfl a5 _ _ rfl hkey ?_; intro cc hat hwc)
    go_ret
    rw [h2] at hat
    cases hat
    rw [hput]
    exact ⟨rfl, ⟨lv, xs, m, D, a1, a2, a3, a4, a5, a6, a7, a8⟩, q1⟩
  | none =>
    rw [hf] at hmap hput
    have hmis : Maps.has D (.string x.key) = false := hmap
    have HMAP : Hid (MapIs (T ++ [x]) (D.put (.string x.key) (.lit (.int .i64 (T.length : Int))))) := a6.put x hf
    have hT1 : TableAt w1 base t M T names := ⟨lv, xs, m, D, a1, a2, a3, a4, a5, a6, a7, a8⟩
    obtain ⟨iN, zN, hiN, hzN, hsN, hbyN, hzsN⟩ := nodeInfo
    have hbw1 : base ≤ w1.heap.size := Nat.le_trans hb b1.size
    have hnews : ∀ (j : Nat) (u : Value), [Value.iface 195 av][j]? = some u → (w1.alloc (.cells #[.iface 195 av] 199)).cell? ((⟨w1.heap.size, 0, none⟩ : Addr).add j) = some u := by
      intro j u hj
      match j, hj with
      | 0, hj => simp at hj; subst hj; exact (Blk.new w1 _ _).cell 0
    have h1c : ∀ u ∈ [Value.iface 195 av], u.oneCell' = true := by intro u hu; simp at hu; subst hu; rfl
    go_wp2_with (first | (at_lookup; refine wpList_lookup_own_ok_int _ rfl _ _ 86 rfl 9 3 .i64 keyLaw Tryz.underlying86 Tryz.underlying3 (zeroInt _) m T.length D rfl a5 _ _ rfl hkey ?_; intro cc hat hwc) | (at_builtin; refine wpList_append_own _ rfl _ _ 87 rfl base 199 iN zN 1 16 Tryz.underlying87 hiN hzN hsN hbyN hzsN (by decide) _ T.length xs (by rw [hlv]; rfl) (a2.alloc _) ⟨w1.heap.size, 0, none⟩ 1 1 [.iface 195 av] rfl rfl hnews h1c (by unfold maxLen; omega) (by omega) (by simp; omega) ?_; intro lv2 w2 hown2 hgrow2 hnil2; obtain ⟨A2, c2, hlv2⟩ := ownsRow_slice hown2; subst hlv2; have hB2 := (a1.alloc _).grown hgrow2 (fun e => own_blk_ne a2 a1 (by decide) e.symm); have F2 : w2.frozen? ⟨t, 0, none⟩ = false := hB2.frozen 0; have C2 : w2.cell? ⟨t, 0, none⟩ = some lv := hB2.cell 0))
    have hmt : m ≠ t := ownsMap_ne_blk a5 a1
    have hM2 := (a5.alloc (.cells #[.iface 195 av] 199)).kept hgrow2 (fun e => ownsMap_ne_row a5 a2 e.symm)
    obtain ⟨w3, hw3⟩ : ∃ w3, w3 = w2.setCell ⟨t, 0, none⟩ (.slice A2 (T.length + 1) c2) := ⟨_, rfl⟩
    have hB3 : Blk w3 t 89 #[.slice A2 (T.length + 1) c2, .map (some m), .int .i64 (names : Int)] := by rw [hw3]; exact hB2.set_ 0 _
    have hM3 : w3.ownsMap Tryz.prog 9 (plainElem Tryz.prog 3) m T.length D := by rw [hw3]; exact hM2.setCell hmt _
    have hne3 : (Value.slice A2 (T.length + 1) c2).ownBlock ≠ some t := own_blk_ne hown2 hB2 (by decide)
    have hO3 : w3.ownsRow base 199 1 (.slice A2 (T.length + 1) c2) (T.length + 1) (xs ++ [.iface 195 av]) := by rw [hw3]; exact hown2.kept (grownBy_set (grownBy_refl _ _) _) (.inr hne3)
    have q2 : TF base w w2 := (q1.trans (TF.of_below ((Below.refl _ _).alloc (Nat.le_refl _) _) hbw1)).trans (TF.of_grown hgrow2 (by simp; omega) (fun k hk => a2.ownBlock_ge hk) (fun k o hk ho => by
      obtain ⟨cs, ho2⟩ := ownsRow_obj (a2.alloc _) hk ho
      rw [ho2]; exact fun h => h.2 rfl))
    have q3 : TF base w w3 := by
      rw [hw3]
      exact q2.trans (TF.of_grown (grownBy_set (grownBy_refl w2 (some t)) _) (Nat.le_trans hbw1 (by have := hgrow2.size; simp at this; omega)) (fun k hk => by cases hk; exact a3) (fun k o hk ho => by
        cases hk; rw [hB2] at ho; cases ho; exact fun h => h.1 rfl))
    rw [← hw3]
    have C30 : w3.cell? ⟨t, 0, none⟩ = some (.slice A2 (T.length + 1) c2) := hB3.cell 0
    have C31 : w3.cell? ⟨t, 1, none⟩ = some (.map (some m)) := hB3.cell 1
    have HX : Hid (∀ w4 : World, w3.grownBy w4 (some m) → w4.ownsMap Tryz.prog 9 (plainElem Tryz.prog 3) m (T.length + 1) (D.put (.string x.key) (.lit (.int .i64 (T.length : Int)))) → TableAt w4 base t M (T ++ [x]) names ∧ TF base w w4) := by
      intro w4 hg4 hm4
      have hf4 : TF base w3 w4 := TF.of_grown hg4 (Nat.le_trans hb q3.1.size) (fun k hk => by cases hk; exact a4) (fun k o hk ho => by
        cases hk
        obtain ⟨es, cl, hh, _⟩ := hM3
        rw [hh] at ho; cases ho; exact fun h => h)
      have hq4 : TF base w w4 := q3.trans hf4
      have hfar1 : Far notTable w1 w4 := by
        have h12 : Far notTable w1 w2 := ((Far.of_below ((Below.refl w1.heap.size w1).alloc (Nat.le_refl _) _)).trans (Far.of_grown hgrow2 (fun k o hk ho => by
          obtain ⟨cs, ho2⟩ := ownsRow_obj (a2.alloc _) hk ho
          rw [ho2]; exact fun h => h.2 rfl)))
        have h23 : Far notTable w2 w3 := by
          rw [hw3]
          exact Far.of_grown (grownBy_set (grownBy_refl w2 (some t)) _) (fun k o hk ho => by cases hk; rw [hB2] at ho; cases ho; exact fun h => h.1 rfl)
        exact (h12.trans h23).trans hf4.2
      refine ⟨⟨_, xs ++ [.iface 195 av], m, _, hB3.grown hg4 (fun e => hmt (Option.some.inj e).symm), ?_, a3, a4, ?_, HMAP.out, ?_, ?_⟩, hq4⟩
      · rw [List.length_append, List.length_singleton]
        exact hO3.kept hg4 (.inr (fun e => ownsMap_ne_row hM3 hO3 e))
      · rw [List.length_append, List.length_singleton]; exact hm4
      · intro i y hy
        rcases Nat.lt_or_ge i T.length with hlt | hge
        · rw [List.getElem?_append_left hlt] at hy
          obtain ⟨v, hv, hn⟩ := a7 i y hy
          exact ⟨v, by rw [List.getElem?_append_left (List.getElem?_eq_some_iff.1 hv).1]; exact hv, hn.far_ hfar1 (fun _ => ⟨by decide, by decide⟩)⟩
        · rw [List.getElem?_append_right hge] at hy
          have hxl : xs.length = T.length := by have := a2.1; simpa using this
          have hi0 : i - T.length = 0 := by
            rcases Nat.eq_zero_or_pos (i - T.length) with h | h
            · exact h
            · rw [List.getElem?_eq_none (by simp; omega)] at hy; cases hy
          rw [hi0] at hy
          simp at hy
          subst hy
          exact ⟨_, by rw [List.getElem?_append_right (by omega), hxl, hi0]; rfl, hv1.far_ hfar1 (fun _ => ⟨by decide, by decide⟩)⟩
      · intro y hy
        rcases List.mem_append.1 hy with h | h
        · exact a8 y h
        · simp at h; subst h; exact hx
    clear hw3 q1 q2 q3 hB2 F2 C2 hM2 a1 a2 a3 a4 a5 a6 a7 a8 hT1 hv1 hown2 hgrow2 hnil2 HMAP hnews h1c hmap hat hwc C0 C1 F0 hiN hzN hsN hbyN hzsN hlv b1
    have hwr : IntKind.i64.wrap (T.length : Int) = (T.length : Int) := by rw [IntKind.wrap_i64]; omega
    have hval : plainElem (H := Unit) Tryz.prog 3 (.int .i64 (T.length : Int)) = some (.lit (.int .i64 (T.length : Int)), []) := plainElem_int Tryz.underlying3 (WalkArith.wf_i64 (by omega))
    have hM3d : w3.drew.ownsMap Tryz.prog 9 (plainElem Tryz.prog 3) m T.length D := hM3
    obtain ⟨w4, hrun, hown4, hgrow4⟩ := hM3d.update keyLaw Tryz.underlying86 (by unfold maxLen; omega) hkey hval
    have C4 : w4.cell? ⟨t, 0, none⟩ = some (.slice A2 (T.length + 1) c2) := (hB3.drew.grown hgrow4 (fun e => hmt (Option.some.inj e).symm)).cell 0
    clear hB3 hM3 hO3
    go_region
    all_goals (go_wp2; go_ret; rw [hput]; exact ⟨rfl, HX.out w4 ⟨hgrow4.os, hgrow4.tape, hgrow4.output, hgrow4.size, hgrow4.block⟩ hown4⟩)
end Go.Proofs.YtipehnojibdfeaaGreat
