/- Parts of the proof, as they were built: Prim8, Prim9, Term1, Term2, Wire3, Term3. -/
import Derived.Test.YtipehnojibdfeaaGreatRk9
import Derived.Maps.OwnSet
import Derived.WalkMore

/- prim's Seal of the real kind. -/
namespace Go.Proofs.YtipehnojibdfeaaGreat
open Go Go.Proofs Go.RowKit

theorem RealPrim.later {w w' : World} {base p n : Nat} (h : RealPrim w base p n) (hb : Below w.heap.size w w') : RealPrim w' base p n := by
  obtain ⟨j, xs, hB, hJ, hne⟩ := h
  exact ⟨j, xs, hB.later hb, ownsRow_later hJ hb, hne⟩
theorem meets_seal (n : Nat) (W : World) : (method (n + 1) 75 (.agg #[]) "missive/prim.seal").run Tryz.prog W = .ok (64, .agg #[]) W := by kernel_rfl

set_option maxRecDepth 100000 in
set_option maxHeartbeats 2000000 in
theorem sealReal_any (w : World) (base p n : Nat) (hp : RealPrim w base p n) (hn : n ≤ 1000000) (hb : base ≤ w.heap.size) (hbp : base ≤ p) (key nonce ad text : ByteArray) (hk : key.size = 32) (h1 : nonce.size ≤ 16384) (h2 : ad.size ≤ 16384) (h3 : text.size ≤ 16384) (F K : Nat → Int) (hT : Tabs w F K) :
    Calls Tryz.prog 10 #[.pointer (some ⟨p, 0, none⟩), .string key, .string nonce, .string ad, .string text] w fun e w' => e = .returned (.tuple #[.string (bs (sealF F K key.data.toList nonce.data.toList ad.data.toList text.data.toList)), .int .i64 0]) ∧ RealPrim w' base p (n + 1) ∧ Below base w w' := by
  obtain ⟨j, xs, hB, hJ, hne⟩ := hp
  have hnone := none_any w p j hB
  have hlong := long_any (w.alloc (.cells #[.string nonce, .string ad, .string text] 9)) [nonce, ad, text] (some ⟨w.heap.size, 0, none⟩) 3 3 _ (reads_three w _ _ _ _) (by omega)
  have hll : longL [nonce, ad, text] = false := by simp [longL]; omega
  rw [hll] at hlong
  have q1 : Below w.heap.size w (w.alloc (.cells #[.string nonce, .string ad, .string text] 9)) := (Below.refl _ _).alloc (Nat.le_refl _) _
  have hP : RealPrim w base p n := ⟨j, xs, hB, hJ, hne⟩
  have C1 : (w.alloc (.cells #[.string nonce, .string ad, .string text] 9)).cell? ⟨p, 1, none⟩ = some (.iface 75 (.agg #[])) := (hB.alloc _).cell 1
  have hseal := plainSeal_any (w.alloc (.cells #[.string nonce, .string ad, .string text] 9)) key nonce ad text hk (by omega) (by omega) (by omega) F K (hT.later q1)
  clear hB hJ hne hll
  go_enter Tryz.func10, Tryz.ntmps10
  go_wp2_with fail
  refine hnone.mono ?_
  rintro e w' ⟨rfl, hw⟩
  rw [hw]
  clear hw w'
  go_wp2_with fail
  refine hlong.mono ?_
  rintro e w' ⟨rfl, hw⟩
  rw [hw]
  clear hw w'
  go_wp2_with fail
  rw [meets_seal]
  go_wp2_with fail
  refine hseal.mono ?_
  rintro e w2 ⟨rfl, c2⟩
  have q2 := q1.trans (c2.mono (by simp))
  have hd := did_any w2 base p n (hP.later q2) hn (Nat.le_trans hb q2.size) hbp 1 key nonce ad text (bs (sealF F K key.data.toList nonce.data.toList ad.data.toList text.data.toList))
  clear hnone hlong hseal C1
  go_wp2_with fail
  refine hd.mono ?_
  rintro e w3 ⟨rfl, hP3, c3⟩
  have q3 : Below base w w3 := (q2.mono hb).trans c3
  clear hd
  go_wp2
  go_ret2
  exact ⟨rfl, hP3, q3⟩
end Go.Proofs.YtipehnojibdfeaaGreat

/- prim's Open of the real kind. -/
namespace Go.Proofs.YtipehnojibdfeaaGreat
open Go Go.Proofs Go.RowKit

theorem meets_open (n : Nat) (W : World) : (method (n + 1) 75 (.agg #[]) "missive/prim.open").run Tryz.prog W = .ok (62, .agg #[]) W := by kernel_rfl

set_option maxRecDepth 100000 in
set_option maxHeartbeats 2000000 in
theorem openReal_of (w : World) (base p n : Nat) (hp : RealPrim w base p n) (hn : n ≤ 1000000) (hb : base ≤ w.heap.size) (hbp : base ≤ p) (key nonce ad sealed out : ByteArray) (er : Int) (her : er = 0 ∨ er = 10)
    (hopen : Calls Tryz.prog 62 #[.agg #[], .string key, .string nonce, .string ad, .string sealed] w fun e w' => e = .returned (.tuple #[.string out, .int .i64 er]) ∧ Below w.heap.size w w') :
    Calls Tryz.prog 11 #[.pointer (some ⟨p, 0, none⟩), .string key, .string nonce, .string ad, .string sealed] w fun e w' => e = .returned (.tuple #[.string out, .int .i64 er]) ∧ (∃ m, m ≤ n + 1 ∧ RealPrim w' base p m) ∧ Below base w w' := by
  obtain ⟨j, xs, hB, hJ, hne⟩ := hp
  have hnone := none_any w p j hB
  have hP : RealPrim w base p n := ⟨j, xs, hB, hJ, hne⟩
  have C1 : w.cell? ⟨p, 1, none⟩ = some (.iface 75 (.agg #[])) := hB.cell 1
  clear hB hJ hne
  go_enter Tryz.func11, Tryz.ntmps11
  go_wp2_with fail
  refine hnone.mono ?_
  rintro e w' ⟨rfl, hw⟩
  rw [hw]
  clear hw w'
  go_wp2_with fail
  rw [meets_open]
  go_wp2_with fail
  refine hopen.mono ?_
  rintro e w2 ⟨rfl, c2⟩
  rcases her with rfl | rfl
  · have hd := did_any w2 base p n (hP.later c2) hn (Nat.le_trans hb c2.size) hbp 2 key nonce ad sealed out
    clear hnone hopen C1
    go_wp2_with fail
    refine hd.mono ?_
    rintro e w3 ⟨rfl, hP3, c3⟩
    have q3 : Below base w w3 := (c2.mono hb).trans c3
    clear hd
    go_wp2
    go_ret2
    exact ⟨rfl, ⟨_, Nat.le_refl _, hP3⟩, q3⟩
  · have hP2 := hP.later c2
    clear hnone hopen C1
    go_wp2
    go_ret2
    exact ⟨rfl, ⟨n, by omega, hP2⟩, c2.mono hb⟩
end Go.Proofs.YtipehnojibdfeaaGreat

/- the table of terms, as plain Lean: its terms, their keys, what is put in. -/
namespace Go.Proofs.YtipehnojibdfeaaGreat
open Go Go.Proofs Go.RowKit

/-- a term -/
inductive Node where
  | name (n : Nat)
  | data (s : List UInt8)
  | made (kind n : Nat) (label : List UInt8) (parts : List Nat)

def markL : List UInt8 := [240, 84, 82, 77]
def partsL (l : List UInt8) : List Nat → List UInt8
  | [] => l
  | p :: r => partsL (l ++ numTo (p : Int) 4 4) r
def Node.key : Node → List UInt8
  | .name n => [110] ++ numTo (n : Int) 4 4
  | .data s => [100] ++ s
  | .made k n l ps => partsL (putL (([109] ++ numTo (k : Int) 1 1) ++ numTo (n : Int) 1 1) l) ps
/-- the text of a number -/
def textL (n : Nat) : List UInt8 := markL ++ numTo (n : Int) 4 4
def beNat (l : List UInt8) : Nat := l.foldl (fun v b => v * 256 + b.toNat) 0
/-- the number of a text, in a table of so many terms -/
def numOf (len : Nat) (s : List UInt8) : Option Nat :=
  if s.length = 8 ∧ s.take 4 = markL ∧ beNat (s.drop 4) < len then some (beNat (s.drop 4)) else none
def findN (T : List Node) (k : List UInt8) : Option Nat := T.findIdx? (fun x => x.key == k)
def putN (T : List Node) (x : Node) : List Node × Nat := match findN T x.key with | some i => (T, i) | none => (T ++ [x], T.length)
def partN (T : List Node) (s : List UInt8) : List Node × Nat := match numOf T.length s with | some n => (T, n) | none => putN T (.data s)
def partsN (T : List Node) (ps : List Nat) : List (List UInt8) → List Node × List Nat
  | [] => (T, ps)
  | s :: r => partsN (partN T s).1 (ps ++ [(partN T s).2]) r
def sharedN (T : List Node) (ps : List Nat) : Nat × List Nat :=
  match (T[ps[1]?.getD 0]? : Option Node) with
  | some (.made 3 _ _ qs) => (0, [min (ps[0]?.getD 0) (qs[0]?.getD 0), max (ps[0]?.getD 0) (qs[0]?.getD 0)])
  | _ => (1, ps)
def madeN (T : List Node) (kind : Nat) (label : List UInt8) (ps : List Nat) : Node :=
  if kind = 4 then .made kind (sharedN T ps).1 label (sharedN T ps).2 else .made kind 0 label ps
def makeN (T : List Node) (kind : Nat) (label : List UInt8) (ss : List (List UInt8)) : List Node × Nat :=
  putN (partsN T [] ss).1 (madeN (partsN T [] ss).1 kind label (partsN T [] ss).2)
def nodeOf (T : List Node) (s : List UInt8) : Option Node := (numOf T.length s).bind fun n => T[n]?
def partT (T : List Node) (n : Nat) : List UInt8 := match nodeOf T (textL n) with | some (.data d) => d | _ => textL n
def isN (T : List Node) (s : List UInt8) (n : Nat) : Bool :=
  match nodeOf T s with
  | some _ => s == textL n
  | none => match nodeOf T (textL n) with | some (.data d) => s == d | _ => false
def openN (T : List Node) (key nonce ad sealed : List UInt8) : Option (List UInt8) :=
  match nodeOf T sealed with
  | some (.made 6 _ _ ps) => if isN T key (ps[0]?.getD 0) && isN T nonce (ps[1]?.getD 0) && isN T ad (ps[2]?.getD 0) then some (partT T (ps[3]?.getD 0)) else none
  | _ => none

theorem textL_length (n : Nat) : (textL n).length = 8 := by simp [textL, markL, numTo_length]
theorem beNat_num4 (n : Nat) (hn : n < 4294967296) : beNat (numTo (n : Int) 4 4) = n := by
  have e : ∀ k : Nat, (((n : Int) / 2 ^ (8 * k) % 256).toNat.toUInt8).toNat = n / 2 ^ (8 * k) % 256 := by
    intro k
    have h1 : ((n : Int) / 2 ^ (8 * k) % 256).toNat = n / 2 ^ (8 * k) % 256 := by
      have : ((n : Int) / 2 ^ (8 * k) % 256) = ((n / 2 ^ (8 * k) % 256 : Nat) : Int) := by rw [Int.natCast_emod, Int.natCast_ediv, Int.natCast_pow]; rfl
      rw [this]; rfl
    rw [h1]
    simp
  simp only [numTo, List.nil_append, List.cons_append, beNat, List.foldl_cons, List.foldl_nil, e]
  omega
theorem numOf_text (len n : Nat) (hn : n < len) (hl : len ≤ 4294967296) : numOf len (textL n) = some n := by
  have h1 : (textL n).drop 4 = numTo (n : Int) 4 4 := by simp [textL, markL]
  have h2 : (textL n).take 4 = markL := by simp [textL, markL]
  unfold numOf
  rw [h1, beNat_num4 n (by omega), h2, textL_length]
  simp [hn]
theorem numOf_lt {len n : Nat} {s : List UInt8} (h : numOf len s = some n) : n < len := by
  unfold numOf at h
  split at h
  · rename_i hc; cases h; exact hc.2.2
  · cases h
theorem textL_inj {a b : Nat} (ha : a < 4294967296) (hb : b < 4294967296) (h : textL a = textL b) : a = b := by
  have h1 : ∀ n, (textL n).drop 4 = numTo (n : Int) 4 4 := by intro n; simp [textL, markL]
  have := congrArg (fun l => beNat (l.drop 4)) h
  simp only [h1, beNat_num4 a ha, beNat_num4 b hb] at this
  exact this
/-- a text that does not look as a term's -/
theorem numOf_unlike {len : Nat} {s : List UInt8} (h : ¬ (s.length = 8 ∧ s.take 4 = markL)) : numOf len s = none := by
  unfold numOf
  rw [if_neg]
  exact fun hc => h ⟨hc.1, hc.2.1⟩

theorem findN_append (T : List Node) (x : Node) (k : List UInt8) : findN (T ++ [x]) k = match findN T k with | some i => some i | none => if x.key = k then some T.length else none := by
  unfold findN
  rw [List.findIdx?_append]
  cases h : T.findIdx? (fun x => x.key == k) with
  | some i => simp
  | none => by_cases hk : x.key = k <;> simp [hk, List.findIdx?_cons]
theorem findN_lt {T : List Node} {k : List UInt8} {i : Nat} (h : findN T k = some i) : ∃ x, T[i]? = some x ∧ x.key = k := by
  unfold findN at h
  rw [List.findIdx?_eq_some_iff_getElem] at h
  obtain ⟨hl, h1, _⟩ := h
  exact ⟨T[i], by simp [hl], by simpa using h1⟩

/-- the map of a table's keys, as it reads -/
def MapIs (T : List Node) (D : DataW Unit) : Prop :=
  Maps.IsMap D ∧ ∀ k : List UInt8, match findN T k with
    | some i => Maps.has D (.string k) = true ∧ D.atKey (.string k) (.lit (.int .i64 0)) = .lit (.int .i64 (i : Int))
    | none => Maps.has D (.string k) = false
theorem mapIs_empty : MapIs [] (.map [] : DataW Unit) := ⟨⟨[], rfl⟩, fun _ => rfl⟩
theorem isKey_string (k : List UInt8) : WideAt.IsKeyLit (.string k) := by
  first | exact trivial | simp [WideAt.IsKeyLit] | exact ⟨_, rfl⟩
theorem MapIs.put {T : List Node} {D : DataW Unit} (h : MapIs T D) (x : Node) (hx : findN T x.key = none) : MapIs (T ++ [x]) (D.put (.string x.key) (.lit (.int .i64 (T.length : Int)))) := by
  refine ⟨h.1.put _ _, fun k => ?_⟩
  rw [findN_append]
  have hk := h.2 k
  by_cases e : x.key = k
  · subst e
    rw [hx]
    simp only [if_true]
    exact ⟨Maps.has_put_same h.1 (isKey_string _) _, Maps.atKey_put_same h.1 (isKey_string _) _ _⟩
  · have hne : (Lit.string k) ≠ .string x.key := by
      intro hc; cases hc; exact e rfl
    cases hf : findN T k with
    | some i =>
      rw [hf] at hk
      simp only at hk ⊢
      exact ⟨by rw [Maps.has_put_other hne]; exact hk.1, by rw [Maps.atKey_put_other hne]; exact hk.2⟩
    | none =>
      rw [hf] at hk
      simp only [if_neg e] at hk ⊢
      rw [Maps.has_put_other hne]; exact hk
end Go.Proofs.YtipehnojibdfeaaGreat

/- the table of terms in memory; what stays. -/
namespace Go.Proofs.YtipehnojibdfeaaGreat
open Go Go.Proofs Go.RowKit

/-- all objects of some kind stay as they were -/
def Far (Q : Obj → Prop) (w w' : World) : Prop := ∀ (i : Nat) (o : Obj), w.heap[i]? = some o → Q o → w'.heap[i]? = some o
theorem Far.refl (Q : Obj → Prop) (w : World) : Far Q w w := fun _ _ h _ => h
theorem Far.trans {Q : Obj → Prop} {a b c : World} (h : Far Q a b) (k : Far Q b c) : Far Q a c := fun i o ho hq => k i o (h i o ho hq) hq
theorem Far.of_below {Q : Obj → Prop} {w w' : World} (h : Below w.heap.size w w') : Far Q w w' := fun i o ho _ => by
  rw [h.block i (Array.getElem?_eq_some_iff.1 ho).1]; exact ho
theorem Far.of_grown {Q : Obj → Prop} {w w' : World} {g : Option Nat} (h : w.grownBy w' g) (hg : ∀ k o, g = some k → w.heap[k]? = some o → ¬ Q o) : Far Q w w' := fun i o ho hq => by
  rw [h.block i (Array.getElem?_eq_some_iff.1 ho).1 (fun e => hg i o e.symm ho hq)]; exact ho
theorem Far.mono {Q R : Obj → Prop} {w w' : World} (h : Far Q w w') (hr : ∀ o, R o → Q o) : Far R w w' := fun i o ho hq => h i o ho (hr o hq)
def notTable : Obj → Prop
  | .cells _ ty _ => ty ≠ 89 ∧ ty ≠ 199
  | .map _ _ => False
  | _ => True
def notPrim : Obj → Prop
  | .cells _ ty _ => ty ≠ 56 ∧ ty ≠ 60
  | _ => True
theorem Blk.far_ {Q : Obj → Prop} {w w' : World} {g : Nat} {t : TypeId} {cs : Array Value} (h : Blk w g t cs) (hf : Far Q w w') (hq : Q (.cells cs t (0, 0))) : Blk w' g t cs := hf g _ h hq
theorem ownsRow_far {Q : Obj → Prop} {w w' : World} {base : Nat} {e : TypeId} {size n : Nat} {v : Value} {xs : List Value} (h : w.ownsRow base e size v n xs) (hf : Far Q w w') (hq : ∀ cs, Q (.cells cs e (0, 0))) : w'.ownsRow base e size v n xs := by
  refine ⟨h.1, ?_⟩
  rcases h.2 with ⟨a, b⟩ | ⟨g, cap, cur, e1, e2, e3, r⟩
  · exact .inl ⟨a, b⟩
  · exact .inr ⟨g, cap, cur, e1, e2, hf g _ e3 (hq cur), r⟩
theorem ownsMap_far {Q : Obj → Prop} {H : Type} {P : Program} {k : TypeId} {R : Value → Option (DataW H × List MemPlace)} {b n : Nat} {D : DataW H} {w w' : World} (h : w.ownsMap P k R b n D) (hf : Far Q w w') (hq : ∀ es c, Q (.map es c)) : w'.ownsMap P k R b n D := by
  obtain ⟨es, clock, hb, r⟩ := h
  exact ⟨es, clock, hf b _ hb (hq es clock), r⟩
theorem ownsRow_obj {w : World} {base : Nat} {e : TypeId} {size n : Nat} {v : Value} {xs : List Value} (h : w.ownsRow base e size v n xs) {k : Nat} {o : Obj} (hk : v.ownBlock = some k) (ho : w.heap[k]? = some o) : ∃ cs, o = .cells cs e (0, 0) := by
  rcases h.2 with ⟨a, b⟩ | ⟨g, cap, cur, e1, e2, e3, r⟩
  · rw [a] at hk; cases hk
  · rw [e1] at hk; cases hk
    rw [e3] at ho; cases ho
    exact ⟨cur, rfl⟩

/-- how a term lies in memory -/
def NodeAt (w : World) (base M : Nat) (x : Node) (v : Value) : Prop :=
  match x with
  | .name n => v = .iface 190 (.agg #[.int .i64 (n : Int)])
  | .data s => v = .iface 201 (.agg #[.string (bs s)])
  | .made k n l ps => ∃ pv, v = .iface 195 (.agg #[.int .i64 (k : Int), .int .i64 (n : Int), .string (bs l), pv]) ∧ w.ownsRow base 3 1 pv ps.length (ps.map fun (p : Nat) => .int .i64 (p : Int)) ∧ ∀ g, pv.ownBlock = some g → g < M
theorem NodeAt.mono {w : World} {base M M' : Nat} {x : Node} {v : Value} (h : NodeAt w base M x v) (hM : M ≤ M') : NodeAt w base M' x v := by
  cases x with
  | name n => exact h
  | data s => exact h
  | made k n l ps =>
    obtain ⟨pv, e, ho, hg⟩ := h
    exact ⟨pv, e, ho, fun g h => Nat.lt_of_lt_of_le (hg g h) hM⟩
/-- .. while blocks from M on are written -/
theorem NodeAt.below {w w' : World} {base M : Nat} {x : Node} {v : Value} (h : NodeAt w base M x v) (hb : Below M w w') : NodeAt w' base M x v := by
  cases x with
  | name n => exact h
  | data s => exact h
  | made k n l ps =>
    obtain ⟨pv, e, ho, hg⟩ := h
    refine ⟨pv, e, ⟨ho.1, ?_⟩, hg⟩
    rcases ho.2 with ⟨a, b⟩ | ⟨g, cap, cur, e1, e2, e3, r⟩
    · exact .inl ⟨a, b⟩
    · exact .inr ⟨g, cap, cur, e1, e2, (hb.block g (hg g (by rw [e1]; rfl))).trans e3, r⟩
theorem NodeAt.far_ {Q : Obj → Prop} {w w' : World} {base M : Nat} {x : Node} {v : Value} (h : NodeAt w base M x v) (hf : Far Q w w') (hq : ∀ cs, Q (.cells cs 3 (0, 0))) : NodeAt w' base M x v := by
  cases x with
  | name n => exact h
  | data s => exact h
  | made k n l ps =>
    obtain ⟨pv, e, ho, hg⟩ := h
    exact ⟨pv, e, ownsRow_far ho hf hq, hg⟩
/-- bounds of a term's numbers -/
def Node.small : Node → Prop
  | .name n => n ≤ 65536
  | .data s => s.length ≤ 100000000000
  | .made k n l ps => k < 256 ∧ n < 256 ∧ l.length ≤ 100000000000 ∧ ps.length ≤ 1000 ∧ (∀ p ∈ ps, p ≤ 65536) ∧ (k = 6 → ps.length = 4) ∧ (k = 3 → ps.length = 1)
/-- a table of terms that lies at t -/
def TableAt (w : World) (base t M : Nat) (T : List Node) (names : Nat) : Prop :=
  ∃ lv xs m D, Blk w t 89 #[lv, .map (some m), .int .i64 (names : Int)] ∧ w.ownsRow base 199 1 lv T.length xs ∧ base ≤ t ∧ base ≤ m ∧
    w.ownsMap Tryz.prog 9 (plainElem Tryz.prog 3) m T.length D ∧ MapIs T D ∧ (∀ (i : Nat) (x : Node), T[i]? = some x → ∃ v, xs[i]? = some v ∧ NodeAt w base M x v) ∧ ∀ x ∈ T, x.small
theorem TableAt.far_ {Q : Obj → Prop} {w w' : World} {base t M : Nat} {T : List Node} {names : Nat} (h : TableAt w base t M T names) (hf : Far Q w w') (h1 : ∀ cs, Q (.cells cs 89 (0, 0))) (h2 : ∀ cs, Q (.cells cs 199 (0, 0))) (h3 : ∀ cs, Q (.cells cs 3 (0, 0))) (h4 : ∀ es c, Q (.map es c)) : TableAt w' base t M T names := by
  obtain ⟨lv, xs, m, D, a1, a2, a3, a4, a5, a6, a7, a8⟩ := h
  exact ⟨lv, xs, m, D, a1.far_ hf (h1 _), ownsRow_far a2 hf h2, a3, a4, ownsMap_far a5 hf h4, a6, fun i x hx => by
    obtain ⟨v, hv, hn⟩ := a7 i x hx
    exact ⟨v, hv, hn.far_ hf h3⟩, a8⟩
theorem TableAt.later {w w' : World} {base t M : Nat} {T : List Node} {names : Nat} (h : TableAt w base t M T names) (hb : Below w.heap.size w w') : TableAt w' base t M T names :=
  h.far_ (Q := fun _ => True) (Far.of_below hb) (fun _ => trivial) (fun _ => trivial) (fun _ => trivial) (fun _ _ => trivial)
theorem TableAt.notPrim {w w' : World} {base t M : Nat} {T : List Node} {names : Nat} (h : TableAt w base t M T names) (hb : Far notPrim w w') : TableAt w' base t M T names :=
  h.far_ hb (fun _ => ⟨by decide, by decide⟩) (fun _ => ⟨by decide, by decide⟩) (fun _ => ⟨by decide, by decide⟩) (fun _ _ => trivial)
/-- what an operation of a table may do -/
def TF (base : Nat) (w w' : World) : Prop := Below base w w' ∧ Far notTable w w'
theorem TF.trans {base : Nat} {a b c : World} (h : TF base a b) (k : TF base b c) : TF base a c := ⟨h.1.trans k.1, h.2.trans k.2⟩
theorem TF.of_below {base : Nat} {a b : World} (h : Below a.heap.size a b) (hb : base ≤ a.heap.size) : TF base a b := ⟨h.mono hb, Far.of_below h⟩
theorem TF.of_grown {base : Nat} {w w' : World} {g : Option Nat} (h : w.grownBy w' g) (hb : base ≤ w.heap.size) (hg : ∀ k, g = some k → base ≤ k) (ho : ∀ k o, g = some k → w.heap[k]? = some o → ¬ notTable o) : TF base w w' :=
  ⟨⟨h.os, h.tape, h.output, h.size, fun i hi => h.block i (by omega) (fun e => by have := hg i e.symm; omega)⟩, Far.of_grown h ho⟩
theorem TF.drewN {base : Nat} {a b : World} (h : TF base a b) (n : Nat) : TF base a (b.drewN n) := ⟨⟨h.1.os, h.1.tape, h.1.output, h.1.size, h.1.block⟩, h.2⟩
theorem TF.drew {base : Nat} {a b : World} (h : TF base a b) : TF base a b.drew := ⟨⟨h.1.os, h.1.tape, h.1.output, h.1.size, h.1.block⟩, h.2⟩
theorem TF.refl (base : Nat) (w : World) : TF base w w := ⟨Below.refl _ _, Far.refl _ _⟩
end Go.Proofs.YtipehnojibdfeaaGreat

/- wire's Reader: New, Take, Number. -/
namespace Go.Proofs.YtipehnojibdfeaaGreat
open Go Go.Proofs Go.RowKit

/-- a reader of what is left -/
def ReaderAt (w : World) (r : Nat) (l : List UInt8) : Prop :=
  ∃ ad c, Blk w r 82 #[.slice (some ad) l.length c] ∧ ad.block < r ∧ l.length ≤ c ∧ ∀ j u, l[j]? = some u → w.cell? (ad.add j) = some (.int .u8 u.toNat)
theorem byteCells_get (s : ByteArray) (j : Nat) (u : UInt8) (h : s.data.toList[j]? = some u) : byteAt s.data.toList j = u.toNat := by
  rw [byteAt, List.getD_eq_getElem?_getD, h]; rfl
theorem new_any (w : World) (s : ByteArray) : Calls Tryz.prog 33 #[.string s] w fun e w' => ∃ r, e = .returned (.pointer (some ⟨r, 0, none⟩)) ∧ w.heap.size ≤ r ∧ ReaderAt w' r s.data.toList ∧ Below w.heap.size w w' := by
  have kb := fun W => Lib.run_convert_string_bytes (P := Tryz.prog) W 9 30 5 s (u := .string) Tryz.underlying9 Tryz.underlying30 Tryz.underlying5
  have hC := CRow.bytes w 5 s
  have q0 : Below w.heap.size w (Lib.bytesWorld w 5 s) := ⟨rfl, rfl, rfl, by rw [Lib.bytesWorld_size]; omega, fun i hi => Lib.bytesWorld_at_old _ _ _ i hi⟩
  have hcap : s.size ≤ grownCap w s.size 0 5 := grownCap_ge _ _ _ _
  go_enter Tryz.func33, Tryz.ntmps33
  go_wp2_with fail
  go_ret
  refine ⟨_, rfl, q0.size, ⟨⟨w.heap.size, 0, none⟩, _, Blk.new _ _ _, ?_, hcap, ?_⟩, q0.alloc q0.size _⟩
  · show w.heap.size < _
    rw [Lib.bytesWorld_size]; omega
  · intro j u hj
    have hlt : j < s.size := (List.getElem?_eq_some_iff.1 hj).1
    rw [addr_add, Nat.zero_add, World.cell?_alloc_lt _ _ _ (by show w.heap.size < _; rw [Lib.bytesWorld_size]; omega), hC.cell hlt, byteCells_get s j u hj]

theorem reader_set {w : World} {r : Nat} {v : Value} (hB : Blk w r 82 #[v]) {ad : Addr} {k c : Nat} {l : List UInt8} (had : ad.block < r) (hk : k = l.length) (hc : l.length ≤ c) (hcells : ∀ (j : Nat) u, l[j]? = some u → w.cell? (ad.add j) = some (.int .u8 u.toNat)) :
    ReaderAt (w.setCell ⟨r, 0, none⟩ (.slice (some ad) k c)) r l := by
  subst hk
  refine ⟨ad, c, hB.set_ 0 _, had, hc, fun j u hj => ?_⟩
  rw [World.cell?_setCell_other _ _ _ _ (fun e => by have := congrArg Addr.block e; rw [block_of_add] at this; simp at this; omega)]
  exact hcells j u hj
def TakePost (w : World) (r n : Nat) (l : List UInt8) (e : Ending) (w' : World) : Prop :=
  Below r w w' ∧ if n ≤ l.length then e = .returned (.tuple #[.string (bs (l.take n)), .bool true]) ∧ ReaderAt w' r (l.drop n) else e = .returned (.tuple #[.string (bs []), .bool false]) ∧ w' = w
set_option maxHeartbeats 2000000 in
set_option maxRecDepth 100000 in
theorem take_any (w : World) (r n : Nat) (l : List UInt8) (hr : ReaderAt w r l) : Calls Tryz.prog 39 #[.pointer (some ⟨r, 0, none⟩), .int .i64 (n : Int)] w (TakePost w r n l) := by
  obtain ⟨ad, c, hB, had, hc, hcells⟩ := hr
  have C0 : w.cell? ⟨r, 0, none⟩ = some (.slice (some ad) l.length c) := hB.cell 0
  have F0 : w.frozen? ⟨r, 0, none⟩ = false := hB.frozen 0
  by_cases hn : n ≤ l.length
  · have k1 : decide ((l.length : Int) < (n : Int)) = false := by simp; omega
    have kc := run_convert_bytes_back (P := Tryz.prog) w 30 9 5 ad n (l.take n) Tryz.underlying30 Tryz.underlying5 Tryz.underlying9 (fun j hj => by
      have hj' : j < n := by simp at hj; omega
      have hjl : j < l.length := by omega
      have := hcells j l[j] (List.getElem?_eq_getElem hjl)
      rw [this]; simp)
    have hlen : (l.take n).length = n := by simp [List.length_take, Nat.min_eq_left hn]
    rw [hlen] at kc
    obtain ⟨N, hN⟩ : ∃ N, N = l.length := ⟨_, rfl⟩
    rw [← hN] at C0 k1
    have hnN : n ≤ N := by omega
    have HN : Hid (N = l.length) := hN
    clear hN hlen
    go_enter Tryz.func39, Tryz.ntmps39
    go_wp2_with fail
    all_goals (go_ret2; refine ⟨(Below.refl r w).setCell (show r ≤ (⟨r, 0, none⟩ : Addr).block from Nat.le_refl _) _, ?_⟩; rw [if_pos hn]; refine ⟨rfl, reader_set hB ?_ (by rw [List.length_drop, HN.out]) ?_ ?_⟩)
    · exact had
    · rw [List.length_drop, ← HN.out]; have := HN.out; omega
    · intro j u hj
      rw [List.drop_of_length_le (by have := HN.out; omega)] at hj
      simp at hj
    · rw [block_of_add]; exact had
    · rw [List.length_drop]; omega
    · intro j u hj
      rw [add_of_add]
      exact hcells _ u (by rw [List.getElem?_drop] at hj; exact hj)
  · have k1 : decide ((l.length : Int) < (n : Int)) = true := by simp; omega
    have hnN : l.length < n := by omega
    go_enter Tryz.func39, Tryz.ntmps39
    go_wp2_with fail
    go_ret2
    exact ⟨Below.refl _ _, by rw [if_neg hn]; exact ⟨rfl, rfl⟩⟩

theorem beNat_snoc (l : List UInt8) (b : UInt8) : beNat (l ++ [b]) = beNat l * 256 + b.toNat := by simp [beNat]
theorem beFold_lt (l : List UInt8) : ∀ v : Nat, l.foldl (fun v b => v * 256 + b.toNat) v < (v + 1) * 256 ^ l.length := by
  induction l with
  | nil => intro v; simp
  | cons b l ih =>
    intro v
    have h := ih (v * 256 + b.toNat)
    have hb := b.toNat_lt
    have h2 : (v * 256 + b.toNat + 1) * 256 ^ l.length ≤ ((v + 1) * 256) * 256 ^ l.length := Nat.mul_le_mul_right _ (by omega)
    rw [List.foldl_cons, List.length_cons, Nat.pow_succ']
    rw [Nat.mul_assoc] at h2
    omega
theorem beNat_lt (l : List UInt8) : beNat l < 256 ^ l.length := by
  have := beFold_lt l 0
  simpa [beNat] using this
theorem beNat_take (l : List UInt8) (k : Nat) (hk : k < l.length) : beNat (l.take (k + 1)) = beNat (l.take k) * 256 + l[k].toNat := by
  rw [List.take_succ_eq_append_getElem hk, beNat_snoc]
theorem wraps_u64 (n : Int) (h0 : 0 ≤ n) (h1 : n < 2 ^ 64) : IntKind.u64.wrap n = n := by rw [IntKind.wrap_u64]; omega
theorem pow64 : (2 : Nat) ^ 64 = 18446744073709551616 := by decide
set_option maxRecDepth 100000 in
theorem u64_lay (x b : Nat) (hx : x * 256 + b < 18446744073709551616) (hb : b < 256) : bits BinOp.or IntKind.u64 (IntKind.u64.wrap ((x : Int) * 256)) (IntKind.u64.wrap (b : Int)) = ((x * 256 + b : Nat) : Int) := by
  have w1 : IntKind.u64.wrap ((x : Int) * 256) = ((x * 256 : Nat) : Int) := by
    rw [IntKind.wrap_u64]; omega
  have w2 : IntKind.u64.wrap (b : Int) = (b : Int) := by rw [IntKind.wrap_u64]; omega
  rw [w1, w2]
  have h := (bits_nat .u64 64 (by decide) wraps_u64 (x * 256) b (by rw [pow64]; omega) (by rw [pow64]; omega)).2
  rw [h]
  have h := Nat.two_pow_add_eq_or_of_lt (i := 8) (b := b) hb x
  have h2 : 2 ^ 8 * x = x * 256 := by omega
  rw [h2] at h
  rw [← h]
def NumberPost (w : World) (r n : Nat) (l : List UInt8) (e : Ending) (w' : World) : Prop :=
  Below r w w' ∧ if n ≤ l.length then e = .returned (.tuple #[.int .u64 (beNat (l.take n) : Nat), .bool true]) ∧ ReaderAt w' r (l.drop n) else e = .returned (.tuple #[.int .u64 0, .bool false]) ∧ w' = w
set_option maxRecDepth 100000 in
set_option maxHeartbeats 4000000 in
theorem number_any (w : World) (r n : Nat) (l : List UInt8) (hr : ReaderAt w r l) (h1 : 1 ≤ n) (h8 : n ≤ 8) : Calls Tryz.prog 34 #[.pointer (some ⟨r, 0, none⟩), .int .i64 (n : Int)] w (NumberPost w r n l) := by
  have ht := take_any w r n l hr
  go_enter Tryz.func34, Tryz.ntmps34
  go_wp2_with fail
  go_step3
  go_wp2_with fail
  refine ht.mono ?_
  rintro e w' ⟨hb, hp⟩
  clear ht
  by_cases hn : n ≤ l.length
  · rw [if_pos hn] at hp
    obtain ⟨rfl, hr'⟩ := hp
    have hsz : (bs (l.take n)).size = n := by rw [bs_size, List.length_take]; omega
    obtain ⟨s, hs⟩ : ∃ s, s = bs (l.take n) := ⟨_, rfl⟩
    rw [← hs] at hsz ⊢
    have HS : Hid (s = bs (l.take n)) := hs
    clear hs
    go_wp2
    go_step3
    go_wp2_with fail
    go_loopw [9, 27] (fun v i wr => ∃ k : Nat, k ≤ n ∧ i = .int .i64 k ∧ v = .int .u64 (beNat (l.take k) : Nat) ∧ wr = w') (fun _ i _ => 8 - (intOf i).toNat)
    case atStart => exact ⟨0, by omega, rfl, rfl, rfl⟩
    case round =>
      obtain ⟨k, hk, rfl, rfl, rfl⟩ := hrel
      by_cases hk8 : k < 8
      · by_cases hkn : k < n
        · have hkd : decide ((k : Int) = (n : Int)) = false := by simp; omega
          have hkl : k < l.length := by omega
          have hsk : s.data.toList[k]? = some l[k] := by rw [HS.out, bs_list, List.getElem?_take]; simp [hkn, hkl]
          have HB : Hid (beNat (l.take (k + 1)) = beNat (l.take k) * 256 + l[k].toNat) := beNat_take l k hkl
          have hlt := beNat_lt (l.take (k + 1))
          have hle : 256 ^ (l.take (k + 1)).length ≤ 18446744073709551616 := by
            have : (l.take (k + 1)).length ≤ 8 := by rw [List.length_take]; omega
            exact Nat.le_trans (Nat.pow_le_pow_right (by omega) this) (by decide)
          have HL := u64_lay (beNat (l.take k)) l[k].toNat (by have := HB.out; omega) l[k].toNat_lt
          have HL2 : Hid (bits BinOp.or IntKind.u64 (IntKind.u64.wrap ((beNat (l.take k) : Nat) * 256)) (IntKind.u64.wrap (l[k].toNat : Int)) = ((beNat (l.take k) * 256 + l[k].toNat : Nat) : Int)) := HL
          clear HL hlt hle
          go_wp2
          go_roundw
          case rel =>
            refine ⟨k + 1, by omega, by go_num, ?_, by first | rfl | trivial⟩
            rw [HB.out, ← HL2.out]
            have hs2 : k < s.data.toList.length := by simp at hsz ⊢; omega
            have e : s[k] = l[k] := by
              have h1 : s.data.toList[k]? = some s[k] := by rw [List.getElem?_eq_getElem hs2]; rfl
              rw [hsk] at h1; exact (Option.some.inj h1).symm
            rw [e]
          case measure => simp [intOf]; omega
        · obtain rfl : k = n := by omega
          go_wp2
          try rw [Exit.noGoto_ret]
          go_ret2
          exact ⟨hb, by rw [if_pos hn]; exact ⟨rfl, hr'⟩⟩
      · obtain rfl : k = n := by omega
        go_wp2
        try rw [Exit.noGoto_ret]
        go_ret2
        exact ⟨hb, by rw [if_pos hn]; exact ⟨rfl, hr'⟩⟩
  · rw [if_neg hn] at hp
    obtain ⟨rfl, rfl⟩ := hp
    go_wp2
    try rw [Exit.noGoto_ret]
    go_ret2
    exact ⟨Below.refl _ _, by rw [if_neg hn]; exact ⟨rfl, rfl⟩⟩
end Go.Proofs.YtipehnojibdfeaaGreat

/- the table of terms: none, text, Len, the keys of the terms. -/
namespace Go.Proofs.YtipehnojibdfeaaGreat
open Go Go.Proofs Go.RowKit

theorem mapNil (W : World) (m : Nat) : (binOp BinOp.eql 86 (.map (some m)) (.map none)).run Tryz.prog W = .ok (.bool false) W := by kernel_rfl
set_option maxRecDepth 100000 in
theorem termNone_cell (w : World) (t m : Nat) (h : w.cell? ⟨t, 1, none⟩ = some (.map (some m))) : Calls Tryz.prog 136 #[.pointer (some ⟨t, 0, none⟩)] w fun e w' => e = .returned (.bool false) ∧ w' = w := by
  go_enter Tryz.func136, Tryz.ntmps136
  have hm := mapNil w m
  go_wp2_with fail
  go_ret
  exact ⟨rfl, rfl⟩
set_option maxRecDepth 100000 in
theorem termNone_any (w : World) (base t M : Nat) (T : List Node) (k : Nat) (h : TableAt w base t M T k) : Calls Tryz.prog 136 #[.pointer (some ⟨t, 0, none⟩)] w fun e w' => e = .returned (.bool false) ∧ w' = w := by
  obtain ⟨lv, xs, m, D, a1, _⟩ := h
  exact termNone_cell w t m (a1.cell 1)
set_option maxRecDepth 100000 in
theorem termLen_any (w : World) (base t M : Nat) (T : List Node) (k : Nat) (h : TableAt w base t M T k) : Calls Tryz.prog 149 #[.pointer (some ⟨t, 0, none⟩)] w fun e w' => e = .returned (.int .i64 (T.length : Int)) ∧ w' = w := by
  have h0 := termNone_any w base t M T k h
  obtain ⟨lv, xs, m, D, a1, a2, _⟩ := h
  obtain ⟨A, c, hv⟩ := ownsRow_slice a2
  subst hv
  have C0 : w.cell? ⟨t, 0, none⟩ = some (.slice A T.length c) := a1.cell 0
  clear a1 a2
  go_enter Tryz.func149, Tryz.ntmps149
  go_wp2_with fail
  refine h0.mono ?_
  rintro e w' ⟨rfl, hw⟩
  rw [hw]
  clear hw w' h0
  go_wp2
  go_ret
  exact ⟨rfl, rfl⟩
set_option maxRecDepth 100000 in
theorem text_any (w : World) (n : Nat) (hn : n ≤ 65536) : Calls Tryz.prog 137 #[.int .i64 (n : Int)] w fun e w' => e = .returned (.string (bs (textL n))) ∧ Below w.heap.size w w' := by
  have hp := putNumber_any w ⟨#[240, 84, 82, 77]⟩ 4 (n : Int) (by omega) (by omega) (by show (4 : Nat) ≤ _; omega) (by omega) (by omega)
  go_enter Tryz.func137, Tryz.ntmps137
  go_wp2_with fail
  refine hp.mono ?_
  rintro e w' ⟨rfl, hb⟩
  clear hp
  go_wp2
  go_ret
  exact ⟨rfl, hb⟩

set_option maxRecDepth 100000 in
theorem nameKey_any (w : World) (n : Nat) (hn : n ≤ 65536) : Calls Tryz.prog 153 #[.agg #[.int .i64 (n : Int)]] w fun e w' => e = .returned (.string (bs (Node.name n).key)) ∧ Below w.heap.size w w' := by
  have hp := putNumber_any (w.alloc (.cells #[.int .i64 (n : Int)] 190)) ⟨#[110]⟩ 4 (n : Int) (by omega) (by omega) (by show (1 : Nat) ≤ _; omega) (by omega) (by omega)
  go_enter Tryz.func153, Tryz.ntmps153
  go_wp2_with fail
  refine hp.mono ?_
  rintro e w' ⟨rfl, hb⟩
  clear hp
  go_wp2
  go_ret
  exact ⟨rfl, ((Below.refl _ _).alloc (Nat.le_refl _) _).trans (hb.mono (by simp))⟩
set_option maxRecDepth 100000 in
theorem dataKey_any (w : World) (s : List UInt8) (hs : s.length ≤ 100000000000) : Calls Tryz.prog 155 #[.agg #[.string (bs s)]] w fun e w' => e = .returned (.string (bs (Node.data s).key)) ∧ Below w.heap.size w w' := by
  have hadd := fun W => run_string_add_sum (P := Tryz.prog) W ⟨#[100]⟩ (bs s) (by rw [bs_size]; show 1 + s.length ≤ _; omega)
  go_enter Tryz.func155, Tryz.ntmps155
  go_wp2_with fail
  go_ret
  exact ⟨rfl, (Below.refl _ _).alloc (Nat.le_refl _) _⟩
end Go.Proofs.YtipehnojibdfeaaGreat
