/- the table of terms in memory; what stays. -/
import Derived.Test.YtipehnojibdfeaaGreatTerm1
namespace Go.Proofs.YtipehnojibdfeaaGreat
open Go Go.Proofs Go.RowKit

/-- all objects of some kind stay as they were -/
def Far (Q : Obj → Prop) (w w' : World) : Prop := ∀ (i : Nat) (o : Obj), w.heap[i]? = some o → Q o → w'.heap[i]? = some o
theorem Far.refl (Q : Obj → Prop) (w : World) : Far Q w w := fun _ _ h _ => h
theorem Far.trans {Q : Obj → Prop} {a b c : World} (h : Far Q a b) (k : Far Q b c) : Far Q a c := fun i o ho hq => k i o (h i o ho hq) hq
theorem Far.of_below {Q : Obj → Prop} {w w' : World} (h : Below w.heap.size w w') : Far Q w w' := fun i o ho _ => by
  rw [h.block i (Array.getElem?_eq_some_iff.1 ho).1]; exact ho
theorem Far.of_grown {Q : Obj → Prop} {w w' : World} {g : Option Nat} (h : w.grownBy w' g) (hg : ∀ k o, g = some k → w.heap[k]? = some o → ¬ Q o) : Far Q w w' := fun i o ho hq => by
  rw [h.block i (Array.getElem?_eq_some_iff.1 ho).1 (fun e => hg i o e.symm ho hq)]; exact ho
theorem Far.mono {Q R : Obj → Prop} {w w' : World} (h : Far Q w w') (hr : ∀ o, R o → Q o) : Far R w w' := fun i o ho hq => h i o ho (hr o hq)
def notTable : Obj → Prop
  | .cells _ ty _ => ty ≠ 89 ∧ ty ≠ 199
  | .map _ _ => False
  | _ => True
def notPrim : Obj → Prop
  | .cells _ ty _ => ty ≠ 56 ∧ ty ≠ 60
  | _ => True
theorem Blk.far_ {Q : Obj → Prop} {w w' : World} {g : Nat} {t : TypeId} {cs : Array Value} (h : Blk w g t cs) (hf : Far Q w w') (hq : Q (.cells cs t (0, 0))) : Blk w' g t cs := hf g _ h hq
theorem ownsRow_far {Q : Obj → Prop} {w w' : World} {base : Nat} {e : TypeId} {size n : Nat} {v : Value} {xs : List Value} (h : w.ownsRow base e size v n xs) (hf : Far Q w w') (hq : ∀ cs, Q (.cells cs e (0, 0))) : w'.ownsRow base e size v n xs := by
  refine ⟨h.1, ?_⟩
  rcases h.2 with ⟨a, b⟩ | ⟨g, cap, cur, e1, e2, e3, r⟩
  · exact .inl ⟨a, b⟩
  · exact .inr ⟨g, cap, cur, e1, e2, hf g _ e3 (hq cur), r⟩
theorem ownsMap_far {Q : Obj → Prop} {H : Type} {P : Program} {k : TypeId} {R : Value → Option (DataW H × List MemPlace)} {b n : Nat} {D : DataW H} {w w' : World} (h : w.ownsMap P k R b n D) (hf : Far Q w w') (hq : ∀ es c, Q (.map es c)) : w'.ownsMap P k R b n D := by
  obtain ⟨es, clock, hb, r⟩ := h
  exact ⟨es, clock, hf b _ hb (hq es clock), r⟩
theorem ownsRow_obj {w : World} {base : Nat} {e : TypeId} {size n : Nat} {v : Value} {xs : List Value} (h : w.ownsRow base e size v n xs) {k : Nat} {o : Obj} (hk : v.ownBlock = some k) (ho : w.heap[k]? = some o) : ∃ cs, o = .cells cs e (0, 0) := by
  rcases h.2 with ⟨a, b⟩ | ⟨g, cap, cur, e1, e2, e3, r⟩
  · rw [a] at hk; cases hk
  · rw [e1] at hk; cases hk
    rw [e3] at ho; cases ho
    exact ⟨cur, rfl⟩

/-- how a term lies in memory -/
def NodeAt (w : World) (base M : Nat) (x : Node) (v : Value) : Prop :=
  match x with
  | .name n => v = .iface 190 (.agg #[.int .i64 (n : Int)])
  | .data s => v = .iface 201 (.agg #[.string (bs s)])
  | .made k n l ps => ∃ pv, v = .iface 195 (.agg #[.int .i64 (k : Int), .int .i64 (n : Int), .string (bs l), pv]) ∧ w.ownsRow base 3 1 pv ps.length (ps.map fun (p : Nat) => .int .i64 (p : Int)) ∧ ∀ g, pv.ownBlock = some g → g < M
theorem NodeAt.mono {w : World} {base M M' : Nat} {x : Node} {v : Value} (h : NodeAt w base M x v) (hM : M ≤ M') : NodeAt w base M' x v := by
  cases x with
  | name n => exact h
  | data s => exact h
  | made k n l ps =>
    obtain ⟨pv, e, ho, hg⟩ := h
    exact ⟨pv, e, ho, fun g h => Nat.lt_of_lt_of_le (hg g h) hM⟩
/-- .. while blocks from M on are written -/
theorem NodeAt.below {w w' : World} {base M : Nat} {x : Node} {v : Value} (h : NodeAt w base M x v) (hb : Below M w w') : NodeAt w' base M x v := by
  cases x with
  | name n => exact h
  | data s => exact h
  | made k n l ps =>
    obtain ⟨pv, e, ho, hg⟩ := h
    refine ⟨pv, e, ⟨ho.1, ?_⟩, hg⟩
    rcases ho.2 with ⟨a, b⟩ | ⟨g, cap, cur, e1, e2, e3, r⟩
    · exact .inl ⟨a, b⟩
    · exact .inr ⟨g, cap, cur, e1, e2, (hb.block g (hg g (by rw [e1]; rfl))).trans e3, r⟩
theorem NodeAt.far_ {Q : Obj → Prop} {w w' : World} {base M : Nat} {x : Node} {v : Value} (h : NodeAt w base M x v) (hf : Far Q w w') (hq : ∀ cs, Q (.cells cs 3 (0, 0))) : NodeAt w' base M x v := by
  cases x with
  | name n => exact h
  | data s => exact h
  | made k n l ps =>
    obtain ⟨pv, e, ho, hg⟩ := h
    exact ⟨pv, e, ownsRow_far ho hf hq, hg⟩
/-- bounds of a term's numbers -/
def Node.small : Node → Prop
  | .name n => n ≤ 65536
  | .data s => s.length ≤ 100000000000
  | .made k n l ps => k < 256 ∧ n < 256 ∧ l.length ≤ 100000000000 ∧ ps.length ≤ 1000 ∧ (∀ p ∈ ps, p ≤ 65536) ∧ (k = 6 → ps.length = 4) ∧ (k = 3 → ps.length = 1)
/-- a table of terms that lies at t -/
def TableAt (w : World) (base t M : Nat) (T : List Node) (names : Nat) : Prop :=
  ∃ lv xs m D, Blk w t 89 #[lv, .map (some m), .int .i64 (names : Int)] ∧ w.ownsRow base 199 1 lv T.length xs ∧ base ≤ t ∧ base ≤ m ∧
    w.ownsMap Tryz.prog 9 (plainElem Tryz.prog 3) m T.length D ∧ MapIs T D ∧ (∀ (i : Nat) (x : Node), T[i]? = some x → ∃ v, xs[i]? = some v ∧ NodeAt w base M x v) ∧ ∀ x ∈ T, x.small
theorem TableAt.far_ {Q : Obj → Prop} {w w' : World} {base t M : Nat} {T : List Node} {names : Nat} (h : TableAt w base t M T names) (hf : Far Q w w') (h1 : ∀ cs, Q (.cells cs 89 (0, 0))) (h2 : ∀ cs, Q (.cells cs 199 (0, 0))) (h3 : ∀ cs, Q (.cells cs 3 (0, 0))) (h4 : ∀ es c, Q (.map es c)) : TableAt w' base t M T names := by
  obtain ⟨lv, xs, m, D, a1, a2, a3, a4, a5, a6, a7, a8⟩ := h
  exact ⟨lv, xs, m, D, a1.far_ hf (h1 _), ownsRow_far a2 hf h2, a3, a4, ownsMap_far a5 hf h4, a6, fun i x hx => by
    obtain ⟨v, hv, hn⟩ := a7 i x hx
    exact ⟨v, hv, hn.far_ hf h3⟩, a8⟩
theorem TableAt.later {w w' : World} {base t M : Nat} {T : List Node} {names : Nat} (h : TableAt w base t M T names) (hb : Below w.heap.size w w') : TableAt w' base t M T names :=
  h.far_ (Q := fun _ => True) (Far.of_below hb) (fun _ => trivial) (fun _ => trivial) (fun _ => trivial) (fun _ _ => trivial)
theorem TableAt.notPrim {w w' : World} {base t M : Nat} {T : List Node} {names : Nat} (h : TableAt w base t M T names) (hb : Far notPrim w w') : TableAt w' base t M T names :=
  h.far_ hb (fun _ => ⟨by decide, by decide⟩) (fun _ => ⟨by decide, by decide⟩) (fun _ => ⟨by decide, by decide⟩) (fun _ _ => trivial)
/-- what an operation of a table may do -/
def TF (base : Nat) (w w' : World) : Prop := Below base w w' ∧ Far notTable w w'
theorem TF.trans {base : Nat} {a b c : World} (h : TF base a b) (k : TF base b c) : TF base a c := ⟨h.1.trans k.1, h.2.trans k.2⟩
theorem TF.of_below {base : Nat} {a b : World} (h : Below a.heap.size a b) (hb : base ≤ a.heap.size) : TF base a b := ⟨h.mono hb, Far.of_below h⟩
theorem TF.of_grown {base : Nat} {w w' : World} {g : Option Nat} (h : w.grownBy w' g) (hb : base ≤ w.heap.size) (hg : ∀ k, g = some k → base ≤ k) (ho : ∀ k o, g = some k → w.heap[k]? = some o → ¬ notTable o) : TF base w w' :=
  ⟨⟨h.os, h.tape, h.output, h.size, fun i hi => h.block i (by omega) (fun e => by have := hg i e.symm; omega)⟩, Far.of_grown h ho⟩
theorem TF.drewN {base : Nat} {a b : World} (h : TF base a b) (n : Nat) : TF base a (b.drewN n) := ⟨⟨h.1.os, h.1.tape, h.1.output, h.1.size, h.1.block⟩, h.2⟩
theorem TF.drew {base : Nat} {a b : World} (h : TF base a b) : TF base a b.drew := ⟨⟨h.1.os, h.1.tape, h.1.output, h.1.size, h.1.block⟩, h.2⟩
theorem TF.refl (base : Nat) (w : World) : TF base w w := ⟨Below.refl _ _, Far.refl _ _⟩
end Go.Proofs.YtipehnojibdfeaaGreat
