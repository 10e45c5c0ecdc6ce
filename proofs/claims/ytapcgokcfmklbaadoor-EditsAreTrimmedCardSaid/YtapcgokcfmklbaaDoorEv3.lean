/-
  Edit lists that a function changed: what comes back. No program in sight. Conditions: none.
-/
import Derived.Test.YtapcgokcfmklbaaDoorE5
namespace Go.Proofs.YtapcgokcfmklbaaDoor
open Go Go.Proofs Go.RowKit

theorem edE_rng {t : List UInt8} {r : Int} {l : List Ev} (h : edE t r l = 0) : ∀ e ∈ l, 0 ≤ e.inn ∧ e.inn ≤ 16777216 ∧ 0 ≤ e.out ∧ e.out ≤ 16777216 ∧ 0 ≤ e.at_ ∧ e.at_ ≤ 16777216 := by
  intro e he
  obtain ⟨i, hi, rfl⟩ := List.getElem_of_mem he
  have h1 := (edE_ok h).2.2.2 i hi
  have h2 : l.getD i default = l[i] := by rw [List.getD_eq_getElem?_getD, List.getElem?_eq_getElem hi]; rfl
  unfold evErr at h1
  rw [h2] at h1
  have := evE1_ok h1
  omega
theorem slipL_len (l : List Ev) (i : Nat) (b : Int) : (slipL l i b).length = l.length := by simp [slipL]
theorem trimEL_len (l : List Ev) (i : Nat) (b : Int) : (trimEL l i b).length = l.length := trimK_len ..
theorem slipL_reel {l : List Ev} {i : Nat} {b : Int} (hr : ∀ e ∈ l, e.reel.length ≤ maxLen) : ∀ e ∈ slipL l i b, e.reel.length ≤ maxLen := by
  intro e he
  by_cases hi : i < l.length
  · rcases List.mem_or_eq_of_mem_set he with h | h
    · exact hr e h
    · subst h
      have hm : l.getD i default ∈ l := by rw [List.getD_eq_getElem?_getD, List.getElem?_eq_getElem hi]; exact List.getElem_mem _
      show (l.getD i default).reel.length ≤ maxLen
      exact hr (l.getD i default) hm
  · unfold slipL at he
    rw [List.set_eq_of_length_le (by omega)] at he
    exact hr e he
theorem trimE_reel (i : Nat) (b : Int) (j : Nat) (e : Ev) : (trimE i b j e).reel = e.reel := by
  unfold trimE; split
  · rfl
  · split <;> rfl
theorem trimEL_reel {l : List Ev} {i : Nat} {b : Int} (hr : ∀ e ∈ l, e.reel.length ≤ maxLen) : ∀ e ∈ trimEL l i b, e.reel.length ≤ maxLen := by
  intro e he
  unfold trimEL trimK at he
  rw [List.mem_map] at he
  obtain ⟨j, hj, rfl⟩ := he
  have hj2 := List.mem_range.1 hj
  have hm : l.getD j default ∈ l := by rw [List.getD_eq_getElem?_getD, List.getElem?_eq_getElem hj2]; exact List.getElem_mem _
  rw [if_pos hj2, trimE_reel]
  exact hr (l.getD j default) hm
/-- what a change of list l (its title t, its rate) at event i to l2 gives -/
def chR (t : List UInt8) (rate : Int) (n : Nat) (l l2 : List Ev) (i : Int) (v : Value) (H : HL) : Prop :=
  (edE t rate l ≠ 0 ∧ v = noL (edE t rate l) ∧ H = []) ∨ (edE t rate l = 0 ∧ (i < 0 ∨ (n : Int) ≤ i) ∧ v = noL 11 ∧ H = []) ∨ (edE t rate l = 0 ∧ 0 ≤ i ∧ i < n ∧ edE t rate l2 ≠ 0 ∧ v = noL (edE t rate l2) ∧ H = []) ∨ (edE t rate l = 0 ∧ 0 ≤ i ∧ i < n ∧ edE t rate l2 = 0 ∧ ∃ g cap junk, v = .tuple #[.agg #[sv t, iv rate, .slice (some ⟨g, 0, none⟩) n cap], iv 0] ∧ H = [⟨g, 134, evs l2 ++ junk⟩] ∧ n ≤ cap ∧ cap ≤ maxLen)
theorem RS.sbpx {P W n ops Q rest e H H2} (hs : Sbp H2 H) (h : RS P W n ops Q rest e H2) : RS P W n ops Q rest e H := fun a w hr ho => h a w hr (ho.sbp hs)
theorem rem_appx {b : B} {K H H' : HL} (h : Rem b H H') : Rem b (K ++ H) (K ++ H') := by
  induction K with
  | nil => exact h
  | cons c K ih => exact .tail ih
theorem chT {t : List UInt8} {rate : Int} {n : Nat} {l l2 : List Ev} {i : Int} {v : Value} {H : HL} (h : chR t rate n l l2 i v H) : ∃ (a1 : List UInt8) (a2 : Int) (a3 : Option Addr) (a4 a5 : Nat) (er : Int), v = .tuple #[.agg #[sv a1, iv a2, .slice a3 a4 a5], iv er] := by
  rcases h with ⟨_, h, _⟩ | ⟨_, _, h, _⟩ | ⟨_, _, _, _, h, _⟩ | ⟨_, _, _, _, _, _, _, h, _⟩
  · exact ⟨_, _, _, _, _, _, h⟩
  · exact ⟨_, _, _, _, _, _, h⟩
  · exact ⟨_, _, _, _, _, _, h⟩
  · exact ⟨_, _, _, _, _, _, h⟩
end Go.Proofs.YtapcgokcfmklbaaDoor
