/-
  Rows of integers that came in. No program in sight. Conditions: none.
-/
import Derived.Test.YtapcgokcfmklbaaDoorOpen
import Derived.Test.YtapcgokcfmklbaaDoorSpec
namespace Go.Proofs.YtapcgokcfmklbaaDoor
open Go Go.RowKit

/-- A slice's cells that are integers: nothing is asked of an empty one. -/
def IS (w : World) (A : Option Addr) (xs : List Int) : Prop :=
  0 < xs.length → ∃ b o, A = some ⟨b, o, none⟩ ∧ ∀ i x, xs[i]? = some x → w.cell? ⟨b, o + i, none⟩ = some (iv x)
theorem IS.own {W w : World} {H : HL} {A : Option Addr} {xs : List Int} (h : IS W A xs) (ho : Own W w H) : IS w A xs := fun hn => by
  obtain ⟨b, o, h1, h2⟩ := h hn
  exact ⟨b, o, h1, fun i x hi => ho.old (h2 i x hi)⟩
variable {H : Type} {enc : TypeId × Value → H} {P : Program} {w : World} {base : Nat} {spare : Nat → Bool} {held : Bool}
theorem Leaf.ints {l e : TypeId} {c : Value} (ht : P.underlying l = some (.slice e)) (he : P.underlying e = some (.int .i64)) (hc : P.cellsOf e = 1) (h : Leaf enc P w base spare held l c) :
    ∃ (A : Option Addr) (n cap : Nat) (xs : List Int), c = .slice A n cap ∧ n ≤ maxLen ∧ xs.length = n ∧ IS w A xs ∧ ∀ x ∈ xs, -9223372036854775808 ≤ x ∧ x ≤ 9223372036854775807 := by
  obtain ⟨A, n, cap, V, rfl, hm, hV⟩ := h.slice1 ht hc
  obtain ⟨F, hF⟩ := Go.Deep.choose_lt (α := Int) (n := n) (p := fun i b => ∃ a, A = some a ∧ w.cell? (a.add i) = some (iv b) ∧ (Lit.int .i64 b).wf = true) (fun i hi => by
    obtain ⟨a, h1, h2, h3⟩ := hV i hi
    obtain ⟨b, h4, h5⟩ := h3.int he
    exact ⟨b, a, h1, by rw [h2, h4], h5⟩)
  refine ⟨A, n, cap, (List.range n).map F, rfl, hm, by simp, fun hp => ?_, fun x hx => ?_⟩
  · simp at hp
    obtain ⟨⟨b, o, sp⟩, rfl, h2, _⟩ := hF 0 hp
    have hsp : sp = none := by simpa [Addr.add] using World.cell?_spot h2
    subst hsp
    refine ⟨b, o, rfl, fun i x hi => ?_⟩
    have hl : i < n := by simpa using (List.getElem?_eq_some_iff.1 hi).1
    obtain ⟨a, h3, h4, _⟩ := hF i hl
    have h5 : F i = x := by simpa [hl] using hi
    cases h3
    rw [addr_add] at h4
    rw [h4, h5]
  · obtain ⟨i, hi, rfl⟩ := List.mem_map.1 hx
    obtain ⟨_, _, _, h5⟩ := hF i (List.mem_range.1 hi)
    exact bounds_i64 h5
end Go.Proofs.YtapcgokcfmklbaaDoor
