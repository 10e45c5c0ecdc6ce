/-
  Events: cells of a row; events changed; equality. No program in sight. Conditions: none.
-/
import Derived.Test.YtapcgokcfmklbaaDoorEv
import Derived.Test.YtapcgokcfmklbaaDoorEq2
namespace Go.Proofs.YtapcgokcfmklbaaDoor
open Go Go.RowKit

theorem ES.src {W : World} {A : Option Addr} {l : List Ev} (h : ES W A l) (h0 : 0 < l.length) : ∃ b o, A = some ⟨b, o, none⟩ ∧ ∀ j u, (evs l)[j]? = some u → W.cell? ((⟨b, o, none⟩ : Addr).add j) = some u := by
  obtain ⟨b, o, h1, h2⟩ := h h0
  refine ⟨b, o, h1, fun j u hj => ?_⟩
  have hl := (List.getElem?_eq_some_iff.1 hj).1
  rw [evs_len] at hl
  have hi : l[j / 6]? = some l[j / 6] := List.getElem?_eq_getElem (by omega)
  have e := evs_at (j := j % 6) hi (by omega)
  rw [show 6 * (j / 6) + j % 6 = j by omega, hj] at e
  have := h2 _ _ hi (j % 6) u e.symm
  rw [addr_add]
  rw [show o + j / 6 * 6 + j % 6 = o + j by omega] at this
  exact this
def fdE (e : Ev) : List Fd := [.s e.reel, .i e.kind, .i e.len, .i e.inn, .i e.out, .i e.at_]
theorem fdE_v (e : Ev) : (fdE e).map Fd.v = evc e := rfl
theorem fdE_eq (a b : Ev) : allEq (fdE a) (fdE b) = decide (a = b) := by
  rw [Bool.eq_iff_iff, decide_eq_true_eq]
  cases a; cases b
  simp only [fdE, allEq, Fd.eq, Bool.and_eq_true, beq_iff_eq, Ev.mk.injEq, and_true]
theorem evs_set : ∀ {l : List Ev} {i j : Nat} {e : Ev} {v : Value} {junk : List Value}, i < l.length → j < 6 → (evc (l.getD i default)).set j v = evc e → (evs l ++ junk).set (6 * i + j) v = evs (l.set i e) ++ junk
  | [], i, _, _, _, _, h, _, _ => absurd h (Nat.not_lt_zero _)
  | a :: l, 0, j, e, v, junk, _, hj, h => by
    have h2 : (evc a).set j v = evc e := h
    show (evc a ++ evs l ++ junk).set (6 * 0 + j) v = evc e ++ evs l ++ junk
    rw [List.append_assoc, List.append_assoc, show 6 * 0 + j = j by omega, List.set_append_left _ _ (by show j < 6; exact hj), h2]
  | a :: l, i + 1, j, e, v, junk, hi, hj, h => by
    have ih := evs_set (l := l) (i := i) (junk := junk) (by simpa using hi) hj h
    show (evc a ++ evs l ++ junk).set (6 * (i + 1) + j) v = evc a ++ evs (l.set i e) ++ junk
    rw [List.append_assoc, List.append_assoc, List.set_append_right _ _ (by show 6 ≤ _; omega), ← ih]
    congr 2
    show 6 * (i + 1) + j - 6 = 6 * i + j
    omega
theorem getD_ext {l m : List Ev} (hl : l.length = m.length) (h : ∀ j, j < l.length → l.getD j default = m.getD j default) : l = m := by
  apply List.ext_getElem hl
  intro i h1 h2
  have := h i h1
  rwa [List.getD_eq_getElem?_getD, List.getD_eq_getElem?_getD, List.getElem?_eq_getElem h1, List.getElem?_eq_getElem h2] at this
theorem ev_cell {l : List Ev} {i j : Nat} {v : Value} {junk : List Value} (hi : i < l.length) (hj : (evc (l.getD i default))[j]? = some v) : (evs l ++ junk)[i * 6 + j]? = some v := by
  have hj6 : j < 6 := (List.getElem?_eq_some_iff.1 hj).1
  have h1 : l[i]? = some (l.getD i default) := by rw [List.getD_eq_getElem?_getD, List.getElem?_eq_getElem hi]; rfl
  rw [List.getElem?_append_left (by rw [evs_len]; omega), Nat.mul_comm i 6, evs_at h1 hj6]; exact hj
/-- an event slipped by b -/
def slipE (e : Ev) (b : Int) : Ev := { e with inn := e.inn + b, out := e.out + b }
theorem getD_set {l : List Ev} {i : Nat} {e : Ev} (hi : i < l.length) : (l.set i e).getD i default = e := by simp [List.getD, hi]
theorem slip_1 {l : List Ev} {i : Nat} {b : Int} {junk : List Value} (hi : i < l.length) : (evs l ++ junk).set (i * 6 + 3) (iv ((l.getD i default).inn + b)) = evs (l.set i { l.getD i default with inn := (l.getD i default).inn + b }) ++ junk := by
  rw [Nat.mul_comm]; exact evs_set hi (by omega) rfl
theorem slip_2 {l : List Ev} {i : Nat} {b : Int} {junk : List Value} (hi : i < l.length) : (evs (l.set i { l.getD i default with inn := (l.getD i default).inn + b }) ++ junk).set (i * 6 + 4) (iv ((l.getD i default).out + b)) = evs (l.set i (slipE (l.getD i default) b)) ++ junk := by
  rw [Nat.mul_comm, evs_set (e := slipE (l.getD i default) b) (by rw [List.length_set]; exact hi) (by omega) ?_, List.set_set]
  rw [getD_set hi]; rfl
theorem slip_at {l : List Ev} {i : Nat} {b : Int} (hi : i < l.length) : (l.set i { l.getD i default with inn := (l.getD i default).inn + b }).getD i default = { l.getD i default with inn := (l.getD i default).inn + b } := getD_set hi
def slipL (l : List Ev) (i : Nat) (b : Int) : List Ev := l.set i (slipE (l.getD i default) b)
/-- trimmed: its end moved, and what is behind it -/
def trimE (i : Nat) (b : Int) (j : Nat) (e : Ev) : Ev := if j = i then { e with out := e.out + b } else if i < j then { e with at_ := e.at_ + b } else e
def trimK (l : List Ev) (i : Nat) (b : Int) (k : Nat) : List Ev := (List.range l.length).map fun j => if j < k then trimE i b j (l.getD j default) else l.getD j default
def trimEL (l : List Ev) (i : Nat) (b : Int) : List Ev := trimK l i b l.length
theorem trimK_len (l : List Ev) (i : Nat) (b : Int) (k : Nat) : (trimK l i b k).length = l.length := by simp [trimK]
theorem trimK_at {l : List Ev} {i k m : Nat} {b : Int} (hm : m < l.length) : (trimK l i b k).getD m default = if m < k then trimE i b m (l.getD m default) else l.getD m default := by
  rw [List.getD_eq_getElem?_getD, List.getElem?_eq_getElem (by rw [trimK_len]; exact hm), Option.getD_some]
  simp only [trimK, List.getElem_map, List.getElem_range]
theorem trimK_set {l : List Ev} {i k : Nat} {b : Int} (hk : k < l.length) : (trimK l i b k).set k (trimE i b k (l.getD k default)) = trimK l i b (k + 1) := by
  refine getD_ext (by rw [List.length_set, trimK_len, trimK_len]) fun m hm => ?_
  rw [List.length_set, trimK_len] at hm
  rw [trimK_at hm]
  by_cases e : m = k
  · subst e
    rw [getD_set (by rw [trimK_len]; exact hk), if_pos (by omega)]
  · have h1 : ((trimK l i b k).set k (trimE i b k (l.getD k default))).getD m default = (trimK l i b k).getD m default := by
      rw [List.getD_eq_getElem?_getD, List.getElem?_set_ne (fun h => e h.symm), List.getD_eq_getElem?_getD]
    rw [h1, trimK_at hm]
    by_cases h : m < k
    · rw [if_pos h, if_pos (by omega)]
    · rw [if_neg h, if_neg (by omega)]
theorem trimK_0 (l : List Ev) (i : Nat) (b : Int) : trimK l i b i = l := by
  refine getD_ext (trimK_len ..) fun m hm => ?_
  rw [trimK_len] at hm
  rw [trimK_at hm]
  by_cases h : m < i
  · rw [if_pos h]; unfold trimE; rw [if_neg (by omega), if_neg (by omega)]
  · rw [if_neg h]
theorem trim_1 {l : List Ev} {i : Nat} {b : Int} {junk : List Value} (hi : i < l.length) : (evs l ++ junk).set (i * 6 + 4) (iv ((l.getD i default).out + b)) = evs (trimK l i b (i + 1)) ++ junk := by
  have h := trimK_set (i := i) (k := i) (b := b) hi
  rw [trimK_0] at h
  rw [← h, Nat.mul_comm, evs_set (e := trimE i b i (l.getD i default)) hi (by omega) ?_]
  unfold trimE; rw [if_pos rfl]; rfl
theorem trim_2 {l : List Ev} {i k : Nat} {b : Int} {junk : List Value} (hk : k < l.length) (hik : i < k) : (evs (trimK l i b k) ++ junk).set (k * 6 + 5) (iv ((l.getD k default).at_ + b)) = evs (trimK l i b (k + 1)) ++ junk := by
  rw [← trimK_set hk, Nat.mul_comm, evs_set (e := trimE i b k (l.getD k default)) (by rw [trimK_len]; exact hk) (by omega) ?_]
  rw [trimK_at hk, if_neg (by omega)]
  unfold trimE; rw [if_neg (by omega), if_pos hik]; rfl
end Go.Proofs.YtapcgokcfmklbaaDoor
