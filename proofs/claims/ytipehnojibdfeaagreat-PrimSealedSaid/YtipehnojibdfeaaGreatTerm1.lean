/- the table of terms, as plain Lean: its terms, their keys, what is put in. -/
import Derived.Test.YtipehnojibdfeaaGreatPrim9
import Derived.Maps.OwnSet
namespace Go.Proofs.YtipehnojibdfeaaGreat
open Go Go.Proofs Go.RowKit

/-- a term -/
inductive Node where
  | name (n : Nat)
  | data (s : List UInt8)
  | made (kind n : Nat) (label : List UInt8) (parts : List Nat)

def markL : List UInt8 := [240, 84, 82, 77]
def partsL (l : List UInt8) : List Nat → List UInt8
  | [] => l
  | p :: r => partsL (l ++ numTo (p : Int) 4 4) r
def Node.key : Node → List UInt8
  | .name n => [110] ++ numTo (n : Int) 4 4
  | .data s => [100] ++ s
  | .made k n l ps => partsL (putL (([109] ++ numTo (k : Int) 1 1) ++ numTo (n : Int) 1 1) l) ps
/-- the text of a number -/
def textL (n : Nat) : List UInt8 := markL ++ numTo (n : Int) 4 4
def beNat (l : List UInt8) : Nat := l.foldl (fun v b => v * 256 + b.toNat) 0
/-- the number of a text, in a table of so many terms -/
def numOf (len : Nat) (s : List UInt8) : Option Nat :=
  if s.length = 8 ∧ s.take 4 = markL ∧ beNat (s.drop 4) < len then some (beNat (s.drop 4)) else none
def findN (T : List Node) (k : List UInt8) : Option Nat := T.findIdx? (fun x => x.key == k)
def putN (T : List Node) (x : Node) : List Node × Nat := match findN T x.key with | some i => (T, i) | none => (T ++ [x], T.length)
def partN (T : List Node) (s : List UInt8) : List Node × Nat := match numOf T.length s with | some n => (T, n) | none => putN T (.data s)
def partsN (T : List Node) (ps : List Nat) : List (List UInt8) → List Node × List Nat
  | [] => (T, ps)
  | s :: r => partsN (partN T s).1 (ps ++ [(partN T s).2]) r
def sharedN (T : List Node) (ps : List Nat) : Nat × List Nat :=
  match (T[ps[1]?.getD 0]? : Option Node) with
  | some (.made 3 _ _ qs) => (0, [min (ps[0]?.getD 0) (qs[0]?.getD 0), max (ps[0]?.getD 0) (qs[0]?.getD 0)])
  | _ => (1, ps)
def madeN (T : List Node) (kind : Nat) (label : List UInt8) (ps : List Nat) : Node :=
  if kind = 4 then .made kind (sharedN T ps).1 label (sharedN T ps).2 else .made kind 0 label ps
def makeN (T : List Node) (kind : Nat) (label : List UInt8) (ss : List (List UInt8)) : List Node × Nat :=
  putN (partsN T [] ss).1 (madeN (partsN T [] ss).1 kind label (partsN T [] ss).2)
def nodeOf (T : List Node) (s : List UInt8) : Option Node := (numOf T.length s).bind fun n => T[n]?
def partT (T : List Node) (n : Nat) : List UInt8 := match nodeOf T (textL n) with | some (.data d) => d | _ => textL n
def isN (T : List Node) (s : List UInt8) (n : Nat) : Bool :=
  match nodeOf T s with
  | some _ => s == textL n
  | none => match nodeOf T (textL n) with | some (.data d) => s == d | _ => false
def openN (T : List Node) (key nonce ad sealed : List UInt8) : Option (List UInt8) :=
  match nodeOf T sealed with
  | some (.made 6 _ _ ps) => if isN T key (ps[0]?.getD 0) && isN T nonce (ps[1]?.getD 0) && isN T ad (ps[2]?.getD 0) then some (partT T (ps[3]?.getD 0)) else none
  | _ => none

theorem textL_length (n : Nat) : (textL n).length = 8 := by simp [textL, markL, numTo_length]
theorem beNat_num4 (n : Nat) (hn : n < 4294967296) : beNat (numTo (n : Int) 4 4) = n := by
  have e : ∀ k : Nat, (((n : Int) / 2 ^ (8 * k) % 256).toNat.toUInt8).toNat = n / 2 ^ (8 * k) % 256 := by
    intro k
    have h1 : ((n : Int) / 2 ^ (8 * k) % 256).toNat = n / 2 ^ (8 * k) % 256 := by
      have : ((n : Int) / 2 ^ (8 * k) % 256) = ((n / 2 ^ (8 * k) % 256 : Nat) : Int) := by rw [Int.natCast_emod, Int.natCast_ediv, Int.natCast_pow]; rfl
      rw [this]; rfl
    rw [h1]
    simp
  simp only [numTo, List.nil_append, List.cons_append, beNat, List.foldl_cons, List.foldl_nil, e]
  omega
theorem numOf_text (len n : Nat) (hn : n < len) (hl : len ≤ 4294967296) : numOf len (textL n) = some n := by
  have h1 : (textL n).drop 4 = numTo (n : Int) 4 4 := by simp [textL, markL]
  have h2 : (textL n).take 4 = markL := by simp [textL, markL]
  unfold numOf
  rw [h1, beNat_num4 n (by omega), h2, textL_length]
  simp [hn]
theorem numOf_lt {len n : Nat} {s : List UInt8} (h : numOf len s = some n) : n < len := by
  unfold numOf at h
  split at h
  · rename_i hc; cases h; exact hc.2.2
  · cases h
theorem textL_inj {a b : Nat} (ha : a < 4294967296) (hb : b < 4294967296) (h : textL a = textL b) : a = b := by
  have h1 : ∀ n, (textL n).drop 4 = numTo (n : Int) 4 4 := by intro n; simp [textL, markL]
  have := congrArg (fun l => beNat (l.drop 4)) h
  simp only [h1, beNat_num4 a ha, beNat_num4 b hb] at this
  exact this
/-- a text that does not look as a term's -/
theorem numOf_unlike {len : Nat} {s : List UInt8} (h : ¬ (s.length = 8 ∧ s.take 4 = markL)) : numOf len s = none := by
  unfold numOf
  rw [if_neg]
  exact fun hc => h ⟨hc.1, hc.2.1⟩

theorem findN_append (T : List Node) (x : Node) (k : List UInt8) : findN (T ++ [x]) k = match findN T k with | some i => some i | none => if x.key = k then some T.length else none := by
  unfold findN
  rw [List.findIdx?_append]
  cases h : T.findIdx? (fun x => x.key == k) with
  | some i => simp
  | none => by_cases hk : x.key = k <;> simp [hk, List.findIdx?_cons]
theorem findN_lt {T : List Node} {k : List UInt8} {i : Nat} (h : findN T k = some i) : ∃ x, T[i]? = some x ∧ x.key = k := by
  unfold findN at h
  rw [List.findIdx?_eq_some_iff_getElem] at h
  obtain ⟨hl, h1, _⟩ := h
  exact ⟨T[i], by simp [hl], by simpa using h1⟩

/-- the map of a table's keys, as it reads -/
def MapIs (T : List Node) (D : DataW Unit) : Prop :=
  Maps.IsMap D ∧ ∀ k : List UInt8, match findN T k with
    | some i => Maps.has D (.string k) = true ∧ D.atKey (.string k) (.lit (.int .i64 0)) = .lit (.int .i64 (i : Int))
    | none => Maps.has D (.string k) = false
theorem mapIs_empty : MapIs [] (.map [] : DataW Unit) := ⟨⟨[], rfl⟩, fun _ => rfl⟩
theorem isKey_string (k : List UInt8) : WideAt.IsKeyLit (.string k) := by
  first | exact trivial | simp [WideAt.IsKeyLit] | exact ⟨_, rfl⟩
theorem MapIs.put {T : List Node} {D : DataW Unit} (h : MapIs T D) (x : Node) (hx : findN T x.key = none) : MapIs (T ++ [x]) (D.put (.string x.key) (.lit (.int .i64 (T.length : Int)))) := by
  refine ⟨h.1.put _ _, fun k => ?_⟩
  rw [findN_append]
  have hk := h.2 k
  by_cases e : x.key = k
  · subst e
    rw [hx]
    simp only [if_true]
    exact ⟨Maps.has_put_same h.1 (isKey_string _) _, Maps.atKey_put_same h.1 (isKey_string _) _ _⟩
  · have hne : (Lit.string k) ≠ .string x.key := by
      intro hc; cases hc; exact e rfl
    cases hf : findN T k with
    | some i =>
      rw [hf] at hk
      simp only at hk ⊢
      exact ⟨by rw [Maps.has_put_other hne]; exact hk.1, by rw [Maps.atKey_put_other hne]; exact hk.2⟩
    | none =>
      rw [hf] at hk
      simp only [if_neg e] at hk ⊢
      rw [Maps.has_put_other hne]; exact hk
end Go.Proofs.YtipehnojibdfeaaGreat
