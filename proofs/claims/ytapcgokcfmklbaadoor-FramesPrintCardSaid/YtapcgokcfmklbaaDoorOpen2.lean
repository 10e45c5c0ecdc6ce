/-
  Arguments opened: slices whose elements are several floats. No program in sight. Conditions: none.
-/
import Derived.Test.YtapcgokcfmklbaaDoorOpen
namespace Go.Proofs.YtapcgokcfmklbaaDoor
open Go Go.ChangeShapes Go.WideShapes Go.RowKit

section
variable {H : Type} {enc : TypeId × Value → H} {P : Program} {w : World} {base : Nat} {spare : Nat → Bool} {held : Bool}
theorem All2.get {α β : Type} {R : α → β → Prop} : ∀ {a : List α} {b : List β} (_ : All2 R a b) (i : Nat) (x : α) (y : β), a[i]? = some x → b[i]? = some y → R x y
  | [], [], _, i, x, y, h, _ => by simp at h
  | a :: l, b :: m, h, 0, x, y, h1, h2 => by
    simp at h1 h2
    subst h1 h2
    exact h.1
  | a :: l, b :: m, h, i + 1, x, y, h1, h2 => All2.get h.2 i x y (by simpa using h1) (by simpa using h2)
/-- A slice whose elements are rows of leaves. -/
theorem Leaf.sliceN {l e : TypeId} {c : Value} {ls : List TypeId} {d : Nat} (ht : P.underlying l = some (.slice e)) (hl : leaves P d e = some ls) (hc : P.cellsOf e = ls.length) (h : Leaf enc P w base spare held l c) :
    ∃ (A : Option Addr) (n cap : Nat) (C : Nat → List Value), c = .slice A n cap ∧ n ≤ cap ∧ cap ≤ maxLen ∧ ∀ i, i < n → ∃ a, A = some a ∧ All2 (Leaf enc P w base spare held) ls (C i) ∧ ∀ j v, (C i)[j]? = some v → w.cell? (a.add (i * ls.length + j)) = some v := by
  obtain ⟨fuel, x, hx⟩ := h
  rcases Go.Deep.open_slice ht hx with ⟨h1, _⟩ | ⟨a, len, cap, m, n, D, Pl, h1, _, h2, h3, h4, _, h5⟩
  · exact ⟨none, 0, 0, fun _ => [], by simpa using h1, Nat.le_refl _, by simp, fun i hi => by omega⟩
  · obtain ⟨C, hC⟩ := Go.Deep.choose_lt (α := List Value) (n := len) (p := fun i cs => w.cells? base (a.add (i * P.cellsOf e)) (P.cellsOf e) = some cs ∧ DataW.trod enc P w base spare held n e cs = some (D i, Pl i)) (fun i hi => h5 i (by rw [h4]; split <;> omega))
    refine ⟨some a, len, cap, C, by simpa using h1, h2, h3, fun i hi => ⟨a, rfl, ?_, fun j v hj => ?_⟩⟩
    · exact leaves_trod d hl (hC i hi).2
    · obtain ⟨_, h6, h7⟩ := World.cells?_some (hC i hi).1
      have h8 : j < (C i).length := (List.getElem?_eq_some_iff.1 hj).1
      have h9 := h7 j (by omega)
      rw [hc] at h9
      rw [Addr.add_add] at h9
      rw [h9, hj]
/-- .. of floats: the numbers of all of them, one after the other. -/
theorem Leaf.floatsN {l e t : TypeId} {c : Value} {ls : List TypeId} {d k : Nat} (ht : P.underlying l = some (.slice e)) (hl : leaves P d e = some ls) (hc : P.cellsOf e = ls.length) (hk : ls = List.replicate k t) (h0 : 0 < k) (he : P.underlying t = some (.float .f32)) (h : Leaf enc P w base spare held l c) :
    ∃ (A : Option Addr) (n cap : Nat) (xs : List Nat), c = .slice A n cap ∧ n ≤ cap ∧ cap ≤ maxLen ∧ xs.length = k * n ∧ FS w A xs := by
  obtain ⟨A, n, cap, C, rfl, h1, h2, hC⟩ := h.sliceN ht hl hc
  subst hk
  have key : ∀ i, i < k * n → ∃ b : Nat, ∃ a, A = some a ∧ w.cell? (a.add i) = some (flt b) := fun i hi => by
    have hik : i / k < n := by rw [Nat.div_lt_iff_lt_mul h0, Nat.mul_comm]; exact hi
    obtain ⟨a, h3, h4, h5⟩ := hC (i / k) hik
    have h6 := h4.len
    simp only [List.length_replicate] at h6
    have h7 : i % k < (C (i / k)).length := by rw [← h6]; exact Nat.mod_lt _ h0
    obtain ⟨b, h8, _⟩ := (h4.get (i % k) t ((C (i / k))[i % k]) (by rw [List.getElem?_replicate, if_pos (Nat.mod_lt _ h0)]) (List.getElem?_eq_getElem h7)).float he
    have h9 := h5 (i % k) _ (List.getElem?_eq_getElem h7)
    rw [List.length_replicate, Nat.div_add_mod'] at h9
    exact ⟨b, a, h3, by rw [h9, h8]⟩
  obtain ⟨F, hF⟩ := Go.Deep.choose_lt (α := Nat) (n := k * n) (p := fun i b => ∃ a, A = some a ∧ w.cell? (a.add i) = some (flt b)) key
  refine ⟨A, n, cap, (List.range (k * n)).map F, rfl, h1, h2, by simp, fun hp => ?_⟩
  simp at hp
  obtain ⟨⟨b, o, sp⟩, rfl, h3⟩ := hF 0 (by simpa using hp)
  have hsp : sp = none := by simpa [Addr.add] using World.cell?_spot h3
  subst hsp
  refine ⟨b, o, rfl, fun i x hi => ?_⟩
  have hl : i < k * n := by simpa using (List.getElem?_eq_some_iff.1 hi).1
  obtain ⟨a, h4, h5⟩ := hF i hl
  cases h4
  rw [List.getElem?_map, List.getElem?_range hl] at hi
  cases hi
  rw [addr_add] at h5
  exact h5
end
end Go.Proofs.YtapcgokcfmklbaaDoor
