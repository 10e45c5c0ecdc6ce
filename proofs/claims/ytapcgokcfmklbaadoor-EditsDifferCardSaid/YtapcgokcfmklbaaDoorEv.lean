/-
  Plain law of edit lists: events, their cells, what is wrong with them. No program in sight. Conditions: none.
-/
import Derived.Test.YtapcgokcfmklbaaDoorName
import Derived.Test.YtapcgokcfmklbaaDoorCode
import Derived.Test.YtapcgokcfmklbaaDoorBands
namespace Go.Proofs.YtapcgokcfmklbaaDoor
open Go Go.RowKit

structure Ev where
  reel : List UInt8
  kind : Int
  len : Int
  inn : Int
  out : Int
  at_ : Int
deriving DecidableEq, Inhabited
def evc (e : Ev) : List Value := [sv e.reel, iv e.kind, iv e.len, iv e.inn, iv e.out, iv e.at_]
def evs : List Ev → List Value
  | [] => []
  | e :: l => evc e ++ evs l
theorem evs_len : ∀ l : List Ev, (evs l).length = 6 * l.length
  | [] => rfl
  | e :: l => by simp only [evs, List.length_append, List.length_cons, evs_len l]; show 6 + _ = _; omega
theorem evs_app : ∀ l m : List Ev, evs (l ++ m) = evs l ++ evs m
  | [], m => rfl
  | e :: l, m => by simp only [List.cons_append, evs, evs_app l m, List.append_assoc]
theorem evs_at : ∀ {l : List Ev} {i j : Nat} {e : Ev}, l[i]? = some e → j < 6 → (evs l)[6 * i + j]? = (evc e)[j]?
  | [], i, j, e, h, _ => by simp at h
  | a :: l, 0, j, e, h, hj => by
    have : a = e := by simpa using h
    subst this
    rw [evs, List.getElem?_append_left (by show _ < 6; omega)]
    congr 1; omega
  | a :: l, i + 1, j, e, h, hj => by
    have h2 : l[i]? = some e := by simpa using h
    rw [evs, List.getElem?_append_right (by show 6 ≤ _; omega), ← evs_at h2 hj]
    congr 1
    show 6 * (i + 1) + j - 6 = _; omega
theorem evs_one (l : List Ev) : (evs l).all (·.oneCell') = true := by
  induction l with
  | nil => rfl
  | cons e l ih => rw [evs, List.all_append, ih, Bool.and_true]; rfl
/-- events in memory -/
def ES (w : World) (A : Option Addr) (l : List Ev) : Prop :=
  0 < l.length → ∃ b o, A = some ⟨b, o, none⟩ ∧ ∀ i e, l[i]? = some e → ∀ j v, (evc e)[j]? = some v → w.cell? ⟨b, o + i * 6 + j, none⟩ = some v
theorem ES.own {W w : World} {H : HL} {A : Option Addr} {l : List Ev} (h : ES W A l) (ho : Own W w H) : ES w A l := fun hn => by
  obtain ⟨b, o, h1, h2⟩ := h hn
  exact ⟨b, o, h1, fun i e hi j v hj => ho.old (h2 i e hi j v hj)⟩
theorem ES.blk {W w : World} {H : HL} {g : Nat} {t : TypeId} {l : List Ev} {junk : List Value} (ho : Own W w H) (hm : (⟨g, t, evs l ++ junk⟩ : B) ∈ H) : ES w (some ⟨g, 0, none⟩) l := fun _ => by
  refine ⟨g, 0, rfl, fun i e hi j v hj => ?_⟩
  have hj6 : j < 6 := (List.getElem?_eq_some_iff.1 hj).1
  have hl : i < l.length := (List.getElem?_eq_some_iff.1 hi).1
  refine ho.cellG hm ?_
  rw [Nat.zero_add, Nat.mul_comm, List.getElem?_append_left (by rw [evs_len]; omega), evs_at hi hj6]
  exact hj
theorem ES.at_ {w : World} {A : Option Addr} {l : List Ev} (h : ES w A l) {i : Nat} (hi : i < l.length) : ∃ b o, A = some ⟨b, o, none⟩ ∧ ∀ j v, (evc (l.getD i default))[j]? = some v → w.cell? ((⟨b, o + i * 6, none⟩ : Addr).add j) = some v := by
  obtain ⟨b, o, h1, h2⟩ := h (by omega)
  refine ⟨b, o, h1, fun j v hj => ?_⟩
  rw [addr_add]
  refine h2 i _ ?_ j v hj
  rw [List.getD_eq_getElem?_getD, List.getElem?_eq_getElem hi]; rfl
/-- where an event ends -/
def evEnd (e : Ev) : Int := e.at_ + (e.out - e.inn)
def endB (l : List Ev) (i : Nat) : Int := if i = 0 then 0 else evEnd (l.getD (i - 1) default)
/-- the error of one event -/
def evE1 (e : Ev) (i : Nat) (before : Int) : Int :=
  if nameB e.reel = false then 6
  else if e.kind ≠ 1 ∧ e.kind ≠ 2 then 1
  else if e.inn < 0 ∨ e.out ≤ e.inn ∨ 16777216 < e.out ∨ e.at_ < 0 ∨ 16777216 < e.at_ then 3
  else if e.at_ < before then 8
  else if (e.kind = 1 ∧ e.len ≠ 0) ∨ (e.kind = 2 ∧ (e.len < 1 ∨ 250 < e.len ∨ e.out - e.inn < e.len ∨ i = 0 ∨ e.at_ ≠ before)) then 12
  else 0
def evErr (l : List Ev) (i : Nat) : Int := evE1 (l.getD i default) i (endB l i)
def edE (title : List UInt8) (rate : Int) (l : List Ev) : Int :=
  if nameB title = false then 6 else if sec rate = 0 then 1 else if 500 < l.length then 4 else firstE (evErr l) l.length
theorem evE1_6 {e : Ev} {f : Nat} {b : Int} (h : nameB e.reel = false) : evE1 e f b = 6 := if_pos h
theorem evE1_1 {e : Ev} {f : Nat} {b : Int} (h : nameB e.reel = true) (h1 : e.kind ≠ 1 ∧ e.kind ≠ 2) : evE1 e f b = 1 := by unfold evE1; rw [if_neg (by rw [h]; decide), if_pos h1]
theorem evE1_3 {e : Ev} {f : Nat} {b : Int} (h : nameB e.reel = true) (h1 : e.kind = 1 ∨ e.kind = 2) (h2 : e.inn < 0 ∨ e.out ≤ e.inn ∨ 16777216 < e.out ∨ e.at_ < 0 ∨ 16777216 < e.at_) : evE1 e f b = 3 := by
  unfold evE1; rw [if_neg (by rw [h]; decide), if_neg (by omega), if_pos h2]
theorem evE1_8 {e : Ev} {f : Nat} {b : Int} (h : nameB e.reel = true) (h1 : e.kind = 1 ∨ e.kind = 2) (h2 : ¬ (e.inn < 0 ∨ e.out ≤ e.inn ∨ 16777216 < e.out ∨ e.at_ < 0 ∨ 16777216 < e.at_)) (h3 : e.at_ < b) : evE1 e f b = 8 := by
  unfold evE1; rw [if_neg (by rw [h]; decide), if_neg (by omega), if_neg h2, if_pos h3]
theorem evE1_12 {e : Ev} {f : Nat} {b : Int} (h : nameB e.reel = true) (h1 : e.kind = 1 ∨ e.kind = 2) (h2 : ¬ (e.inn < 0 ∨ e.out ≤ e.inn ∨ 16777216 < e.out ∨ e.at_ < 0 ∨ 16777216 < e.at_)) (h3 : ¬ e.at_ < b)
    (h4 : (e.kind = 1 ∧ e.len ≠ 0) ∨ (e.kind = 2 ∧ (e.len < 1 ∨ 250 < e.len ∨ e.out - e.inn < e.len ∨ f = 0 ∨ e.at_ ≠ b))) : evE1 e f b = 12 := by
  unfold evE1; rw [if_neg (by rw [h]; decide), if_neg (by omega), if_neg h2, if_neg h3, if_pos h4]
theorem evE1_0 {e : Ev} {f : Nat} {b : Int} (h : nameB e.reel = true) (h1 : e.kind = 1 ∨ e.kind = 2) (h2 : ¬ (e.inn < 0 ∨ e.out ≤ e.inn ∨ 16777216 < e.out ∨ e.at_ < 0 ∨ 16777216 < e.at_)) (h3 : ¬ e.at_ < b)
    (h4 : ¬ ((e.kind = 1 ∧ e.len ≠ 0) ∨ (e.kind = 2 ∧ (e.len < 1 ∨ 250 < e.len ∨ e.out - e.inn < e.len ∨ f = 0 ∨ e.at_ ≠ b)))) : evE1 e f b = 0 := by
  unfold evE1; rw [if_neg (by rw [h]; decide), if_neg (by omega), if_neg h2, if_neg h3, if_neg h4]
/-- what a right event has -/
theorem evE1_ok {e : Ev} {f : Nat} {b : Int} (h : evE1 e f b = 0) : nameB e.reel = true ∧ (e.kind = 1 ∨ e.kind = 2) ∧ 0 ≤ e.inn ∧ e.inn < e.out ∧ e.out ≤ 16777216 ∧ 0 ≤ e.at_ ∧ e.at_ ≤ 16777216 ∧ b ≤ e.at_ ∧
    ¬ ((e.kind = 1 ∧ e.len ≠ 0) ∨ (e.kind = 2 ∧ (e.len < 1 ∨ 250 < e.len ∨ e.out - e.inn < e.len ∨ f = 0 ∨ e.at_ ≠ b))) := by
  unfold evE1 at h
  split at h
  · cases h
  · rename_i h1
    split at h
    · cases h
    · rename_i h2
      split at h
      · cases h
      · rename_i h3
        split at h
        · cases h
        · rename_i h4
          split at h
          · cases h
          · rename_i h5
            exact ⟨by cases hn : nameB e.reel <;> simp_all, by omega, by omega, by omega, by omega, by omega, by omega, by omega, h5⟩
theorem edE_6 {t : List UInt8} {r : Int} {l : List Ev} (h : nameB t = false) : edE t r l = 6 := if_pos h
theorem edE_1 {t : List UInt8} {r : Int} {l : List Ev} (h : nameB t = true) (h1 : sec r = 0) : edE t r l = 1 := by unfold edE; rw [if_neg (by rw [h]; decide), if_pos h1]
theorem edE_4 {t : List UInt8} {r : Int} {l : List Ev} (h : nameB t = true) (h1 : sec r ≠ 0) (h2 : 500 < (l.length : Int)) : edE t r l = 4 := by unfold edE; rw [if_neg (by rw [h]; decide), if_neg h1, if_pos (by omega)]
theorem edE_n {t : List UInt8} {r : Int} {l : List Ev} (h : nameB t = true) (h1 : sec r ≠ 0) (h2 : ¬ 500 < (l.length : Int)) : edE t r l = firstE (evErr l) l.length := by unfold edE; rw [if_neg (by rw [h]; decide), if_neg h1, if_neg (by omega)]
theorem edE_at {t : List UInt8} {r : Int} {l : List Ev} {i : Nat} {x : Int} (h : nameB t = true) (h1 : sec r ≠ 0) (h2 : ¬ 500 < (l.length : Int)) (hz : firstE (evErr l) i = 0) (hi : i < l.length) (hx : evErr l i = x) (h0 : x ≠ 0) : edE t r l = x := by
  rw [edE_n h h1 h2, firstE_at hz (by rw [hx]; exact h0) hi, hx]
theorem endB_succ (l : List Ev) (i : Nat) : endB l (i + 1) = evEnd (l.getD i default) := rfl
theorem firstE_all {f : Nat → Int} : ∀ {n : Nat}, firstE f n = 0 → ∀ i, i < n → f i = 0
  | 0, _, i, h => absurd h (Nat.not_lt_zero _)
  | n + 1, h, i, hi => by
    unfold firstE at h
    split at h
    · rename_i h1; exact absurd h h1
    · rename_i h1
      by_cases e : i = n
      · subst e; exact h
      · exact firstE_all (Decidable.not_not.1 h1) i (by omega)
/-- bounds at the head of a round -/
theorem endB_bd {l : List Ev} {i : Nat} (hz : firstE (evErr l) i = 0) : 0 ≤ endB l i ∧ endB l i ≤ 33554432 := by
  cases i with
  | zero => exact ⟨Int.le_refl _, by show (0 : Int) ≤ 33554432; decide⟩
  | succ i =>
    have := evE1_ok (firstE_all hz i (by omega))
    rw [endB_succ]; unfold evEnd; omega
theorem edE_ok {t : List UInt8} {r : Int} {l : List Ev} (h : edE t r l = 0) : nameB t = true ∧ sec r ≠ 0 ∧ l.length ≤ 500 ∧ ∀ i, i < l.length → evErr l i = 0 := by
  unfold edE at h
  split at h
  · cases h
  · rename_i h1
    split at h
    · cases h
    · rename_i h2
      split at h
      · cases h
      · rename_i h3
        exact ⟨by cases hn : nameB t <;> simp_all, h2, by omega, firstE_all h⟩
end Go.Proofs.YtapcgokcfmklbaaDoor
