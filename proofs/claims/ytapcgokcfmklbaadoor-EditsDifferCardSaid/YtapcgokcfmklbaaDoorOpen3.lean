/-
  Arguments opened: slices of events. No program in sight. Conditions: none.
-/
import Derived.Test.YtapcgokcfmklbaaDoorOpen2
import Derived.Test.YtapcgokcfmklbaaDoorEv
namespace Go.Proofs.YtapcgokcfmklbaaDoor
open Go Go.ChangeShapes Go.WideShapes Go.RowKit

section
variable {H : Type} {enc : TypeId × Value → H} {P : Program} {w : World} {base : Nat} {spare : Nat → Bool} {held : Bool}
theorem Leaf.events {l e ts t1 t2 t3 t4 t5 : TypeId} {c : Value} {d : Nat} (ht : P.underlying l = some (.slice e)) (hl : leaves P d e = some [ts, t1, t2, t3, t4, t5]) (hc : P.cellsOf e = 6) (hs : P.underlying ts = some .string)
    (h1 : P.underlying t1 = some (.int .i64)) (h2 : P.underlying t2 = some (.int .i64)) (h3 : P.underlying t3 = some (.int .i64)) (h4 : P.underlying t4 = some (.int .i64)) (h5 : P.underlying t5 = some (.int .i64)) (h : Leaf enc P w base spare held l c) :
    ∃ (A : Option Addr) (n cap : Nat) (xs : List Ev), c = .slice A n cap ∧ n ≤ cap ∧ cap ≤ maxLen ∧ xs.length = n ∧ ES w A xs ∧ ∀ x ∈ xs, x.reel.length ≤ maxLen := by
  obtain ⟨A, n, cap, C, rfl, k1, k2, hC⟩ := h.sliceN ht hl hc
  have key : ∀ i, i < n → ∃ x : Ev, x.reel.length ≤ maxLen ∧ ∃ a, A = some a ∧ ∀ j v, (evc x)[j]? = some v → w.cell? (a.add (i * 6 + j)) = some v := fun i hi => by
    obtain ⟨a, q1, q2, q3⟩ := hC i hi
    obtain ⟨c0, r0, e0, l0, a0⟩ := q2.cons_inv
    obtain ⟨c1, r1, rfl, l1, a1⟩ := a0.cons_inv
    obtain ⟨c2, r2, rfl, l2, a2⟩ := a1.cons_inv
    obtain ⟨c3, r3, rfl, l3, a3⟩ := a2.cons_inv
    obtain ⟨c4, r4, rfl, l4, a4⟩ := a3.cons_inv
    obtain ⟨c5, r5, rfl, l5, a5⟩ := a4.cons_inv
    obtain rfl := a5.nil_inv
    obtain ⟨s, rfl, hsz⟩ := l0.string hs
    obtain ⟨sl, rfl⟩ := sv_of s
    obtain ⟨x1, rfl, _⟩ := l1.int h1
    obtain ⟨x2, rfl, _⟩ := l2.int h2
    obtain ⟨x3, rfl, _⟩ := l3.int h3
    obtain ⟨x4, rfl, _⟩ := l4.int h4
    obtain ⟨x5, rfl, _⟩ := l5.int h5
    exact ⟨⟨sl, x1, x2, x3, x4, x5⟩, hsz, a, q1, fun j v hj => q3 j v (by rw [e0]; exact hj)⟩
  obtain ⟨F, hF⟩ := Go.Deep.choose_lt (α := Ev) (n := n) (p := fun i x => x.reel.length ≤ maxLen ∧ ∃ a, A = some a ∧ ∀ j v, (evc x)[j]? = some v → w.cell? (a.add (i * 6 + j)) = some v) key
  refine ⟨A, n, cap, (List.range n).map F, rfl, k1, k2, by simp, fun hp => ?_, fun x hx => ?_⟩
  · simp at hp
    obtain ⟨_, ⟨b, o, sp⟩, rfl, q⟩ := hF 0 hp
    have q0 := q 0 (sv (F 0).reel) rfl
    have hsp : sp = none := by simpa [Addr.add] using World.cell?_spot q0
    subst hsp
    refine ⟨b, o, rfl, fun i x hi j v hj => ?_⟩
    have hl : i < n := by simpa using (List.getElem?_eq_some_iff.1 hi).1
    obtain ⟨_, a, q1, q2⟩ := hF i hl
    cases q1
    rw [List.getElem?_map, List.getElem?_range hl] at hi
    cases hi
    have q3 := q2 j v hj
    rw [addr_add] at q3
    rw [Nat.add_assoc]
    exact q3
  · rw [List.mem_map] at hx
    obtain ⟨i, hi, rfl⟩ := hx
    exact (hF i (List.mem_range.1 hi)).1
end
end Go.Proofs.YtapcgokcfmklbaaDoor
