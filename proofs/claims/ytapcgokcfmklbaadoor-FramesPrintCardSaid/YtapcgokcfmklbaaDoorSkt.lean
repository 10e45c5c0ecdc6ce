/-
  Histograms drawn: plain law. No program in sight. Conditions: none.
-/
import Derived.Test.YtapcgokcfmklbaaDoorBld
import Derived.Test.YtapcgokcfmklbaaDoorInts
namespace Go.Proofs.YtapcgokcfmklbaaDoor
open Go Go.RowKit

theorem IS.at0 {W : World} {A : Option Addr} {ls : List Int} (h : IS W A ls) (h0 : 0 < ls.length) : ∃ b o, A = some ⟨b, o, none⟩ ∧ ∀ i, i < ls.length → W.cell? ⟨b, o + i, none⟩ = some (iv (ls.getD i 0)) := by
  obtain ⟨b, o, h1, h2⟩ := h h0
  refine ⟨b, o, h1, fun i hi => h2 i _ ?_⟩
  rw [List.getD_eq_getElem?_getD, List.getElem?_eq_getElem hi]; rfl
/-- greatest, least of the first k -/
def mxK (l : List Int) : Nat → Int
  | 0 => l.getD 0 0
  | k + 1 => max (mxK l k) (l.getD k 0)
def mnK (l : List Int) : Nat → Int
  | 0 => l.getD 0 0
  | k + 1 => min (mnK l k) (l.getD k 0)
theorem mxK_1 (l : List Int) : mxK l 1 = l.getD 0 0 := by show max (l.getD 0 0) (l.getD 0 0) = _; omega
theorem mnK_1 (l : List Int) : mnK l 1 = l.getD 0 0 := by show min (l.getD 0 0) (l.getD 0 0) = _; omega
theorem mxK_ge {l : List Int} : ∀ {k i : Nat}, i < k → l.getD i 0 ≤ mxK l k
  | 0, i, h => absurd h (Nat.not_lt_zero _)
  | k + 1, i, h => by
    show _ ≤ max (mxK l k) (l.getD k 0)
    by_cases e : i = k
    · subst e; omega
    · have := mxK_ge (l := l) (show i < k by omega); omega
theorem mxK_lt {l : List Int} {c : Int} : ∀ {k : Nat}, c < mxK l (k + 1) → ∃ i, i < k + 1 ∧ c < l.getD i 0
  | 0, h => ⟨0, by omega, by rw [mxK_1] at h; exact h⟩
  | k + 1, h => by
    have h2 : c < max (mxK l (k + 1)) (l.getD (k + 1) 0) := h
    by_cases e : c < l.getD (k + 1) 0
    · exact ⟨k + 1, by omega, e⟩
    · obtain ⟨i, h3, h4⟩ := mxK_lt (l := l) (show c < mxK l (k + 1) by omega)
      exact ⟨i, by omega, h4⟩
theorem mnK_le {l : List Int} : ∀ {k i : Nat}, i < k → mnK l k ≤ l.getD i 0
  | 0, i, h => absurd h (Nat.not_lt_zero _)
  | k + 1, i, h => by
    show min (mnK l k) (l.getD k 0) ≤ _
    by_cases e : i = k
    · subst e; omega
    · have := mnK_le (l := l) (show i < k by omega); omega
theorem mnK_lt {l : List Int} {c : Int} : ∀ {k : Nat}, mnK l (k + 1) < c → ∃ i, i < k + 1 ∧ l.getD i 0 < c
  | 0, h => ⟨0, by omega, by rw [mnK_1] at h; exact h⟩
  | k + 1, h => by
    have h2 : min (mnK l (k + 1)) (l.getD (k + 1) 0) < c := h
    by_cases e : l.getD (k + 1) 0 < c
    · exact ⟨k + 1, by omega, e⟩
    · obtain ⟨i, h3, h4⟩ := mnK_lt (l := l) (show mnK l (k + 1) < c by omega)
      exact ⟨i, by omega, h4⟩
/-- out of range -/
def outI (x : Int) : Bool := decide (x < 0) || decide (16777216 < x)
/-- none of the first k is out of range -/
theorem out_iff {l : List Int} {n : Nat} (hn : 0 < n) : (mnK l n < 0 ∨ 16777216 < mxK l n) ↔ ∃ i, i < n ∧ outI (l.getD i 0) = true := by
  obtain ⟨k, rfl⟩ : ∃ k, n = k + 1 := ⟨n - 1, by omega⟩
  constructor
  · rintro (h | h)
    · obtain ⟨i, h1, h2⟩ := mnK_lt h
      exact ⟨i, h1, by unfold outI; rw [decide_eq_true h2]; rfl⟩
    · obtain ⟨i, h1, h2⟩ := mxK_lt h
      exact ⟨i, h1, by unfold outI; rw [decide_eq_true h2, Bool.or_true]⟩
  · rintro ⟨i, h1, h2⟩
    unfold outI at h2
    rw [Bool.or_eq_true, decide_eq_true_eq, decide_eq_true_eq] at h2
    have h3 := mxK_ge (l := l) h1
    have h4 := mnK_le (l := l) h1
    omega
/-- is one out of range -/
def anyO (l : List Int) (n : Nat) : Bool := decide (mnK l n < 0 ∨ 16777216 < mxK l n)
theorem anyO_T {l : List Int} {n i : Nat} (hi : i < n) (h : outI (l.getD i 0) = true) : anyO l n = true := decide_eq_true ((out_iff (by omega)).2 ⟨i, hi, h⟩)
theorem anyO_F {l : List Int} {n : Nat} (hn : 0 < n) (h : ∀ i, i < n → outI (l.getD i 0) = false) : anyO l n = false :=
  decide_eq_false fun hc => by
    obtain ⟨i, h1, h2⟩ := (out_iff hn).1 hc
    rw [h i h1] at h2; cases h2
theorem anyO_bd {l : List Int} {n i : Nat} (h : anyO l n = false) (hi : i < n) : 0 ≤ l.getD i 0 ∧ l.getD i 0 ≤ 16777216 := by
  have h1 := of_decide_eq_false h
  have h2 := mxK_ge (l := l) hi
  have h3 := mnK_le (l := l) hi
  omega
theorem anyO_mx {l : List Int} {n : Nat} (h : anyO l n = false) (hn : 0 < n) : 0 ≤ mxK l n ∧ mxK l n ≤ 16777216 := by
  have h1 := of_decide_eq_false h
  have h2 := mxK_ge (l := l) hn
  have h3 := mnK_le (l := l) hn
  omega
/-- blanks at the end taken away -/
def trimN (l : List UInt8) : Nat → List UInt8
  | 0 => []
  | k + 1 => if l.getD k 0 = 32 then trimN l k else l.take (k + 1)
def trimR (l : List UInt8) : List UInt8 := trimN l l.length
theorem trimN_T {l : List UInt8} {k : Nat} (h : l.getD k 0 = 32) : trimN l (k + 1) = trimN l k := if_pos h
theorem trimN_F {l : List UInt8} {k : Nat} (h : ¬ l.getD k 0 = 32) : trimN l (k + 1) = l.take (k + 1) := if_neg h
theorem trimN_len (l : List UInt8) : ∀ k, (trimN l k).length ≤ k
  | 0 => Nat.le_refl _
  | k + 1 => by
    unfold trimN; split
    · have := trimN_len l k; omega
    · rw [List.length_take]; omega
theorem take_getD {l : List UInt8} {k : Nat} (hk : k < l.length) : (l.take (k + 1)).getD k 0 = l.getD k 0 := by
  rw [List.getD_eq_getElem?_getD, List.getElem?_take, if_pos (by omega), List.getD_eq_getElem?_getD]
/-- a place's byte -/
def chB (h k most n : Int) : UInt8 := if 0 < most ∧ k * most ≤ n * h then 35 else 32
theorem chB_ref {h k most n : Int} (h1 : 1 ≤ h) (hk : 1 ≤ k) (h2 : 0 ≤ n) (h3 : n ≤ most) : (0 < n ∧ k * most ≤ n * h) ↔ (0 < most ∧ k * most ≤ n * h) := by
  constructor
  · rintro ⟨a, b⟩; exact ⟨by omega, b⟩
  · rintro ⟨a, b⟩
    refine ⟨?_, b⟩
    by_cases e : n = 0
    · subst e
      have := Int.mul_pos (show 0 < k by omega) a
      rw [Int.zero_mul] at b
      omega
    · omega
/-- bytes made of the first i numbers -/
def lnP (f : Int → UInt8) (l : List Int) (i : Nat) : List UInt8 := (List.range l.length).map fun j => if j < i then f (l.getD j 0) else 0
theorem lnP_len (f : Int → UInt8) (l : List Int) (i : Nat) : (lnP f l i).length = l.length := by simp [lnP]
theorem bc_set (l : List UInt8) (i : Nat) (b : UInt8) : (bc l).set i (.int .u8 (b.toNat : Int)) = bc (l.set i b) := by
  unfold bc; rw [List.map_set]
theorem lnP_set {f : Int → UInt8} {l : List Int} {i : Nat} {b : UInt8} (hi : i < l.length) (hb : f (l.getD i 0) = b) : (lnP f l i).set i b = lnP f l (i + 1) := by
  apply List.ext_getElem (by rw [List.length_set, lnP_len, lnP_len])
  intro j h1 h2
  rw [List.getElem_set]
  simp only [lnP, List.getElem_map, List.getElem_range]
  by_cases e : i = j
  · subst e; rw [if_pos rfl, if_pos (by omega), hb]
  · rw [if_neg e]
    by_cases h : j < i
    · rw [if_pos h, if_pos (by omega)]
    · rw [if_neg h, if_neg (by omega)]
theorem lnP_all (f : Int → UInt8) (l : List Int) : lnP f l l.length = l.map f := by
  apply List.ext_getElem (by rw [lnP_len, List.length_map])
  intro j h1 h2
  simp only [lnP, List.getElem_map, List.getElem_range]
  have hj : j < l.length := by simpa using h2
  rw [if_pos hj, List.getD_eq_getElem?_getD, List.getElem?_eq_getElem hj]; rfl
theorem lnP_0 (f : Int → UInt8) (l : List Int) : List.replicate l.length (Value.int .u8 0) = bc (lnP f l 0) := by
  apply List.ext_getElem (by rw [bc_len, lnP_len, List.length_replicate])
  intro j h1 h2
  simp [bc, lnP]
theorem take_map1 {f : Int → UInt8} {l : List Int} {i : Nat} {b : UInt8} (hi : i < l.length) (hb : f (l.getD i 0) = b) : (l.take i).map f ++ [b] = (l.take (i + 1)).map f := by
  rw [List.take_add_one, List.getElem?_eq_getElem hi, List.map_append]
  rw [List.getD_eq_getElem?_getD, List.getElem?_eq_getElem hi] at hb
  simp only [Option.toList_some, List.map_cons, List.map_nil]
  rw [← hb]; rfl
/-- a row, and the first m rows -/
def rowS (l : List Int) (h most k : Int) : List UInt8 := trimR (l.map (chB h k most)) ++ [10]
def sktN (l : List Int) (h most : Int) : Nat → List UInt8
  | 0 => []
  | m + 1 => sktN l h most m ++ rowS l h most (h - m)
theorem rowS_len (l : List Int) (h most k : Int) : 1 ≤ (rowS l h most k).length ∧ (rowS l h most k).length ≤ l.length + 1 := by
  unfold rowS trimR
  have := trimN_len (l.map (chB h k most)) (l.map (chB h k most)).length
  rw [List.length_map] at this
  rw [List.length_append, List.length_map]
  simp only [List.length_cons, List.length_nil]
  omega
theorem sktN_len (l : List Int) (h most : Int) : ∀ m, m ≤ (sktN l h most m).length ∧ (sktN l h most m).length ≤ m * (l.length + 1)
  | 0 => ⟨Nat.le_refl _, Nat.zero_le _⟩
  | m + 1 => by
    have h1 := sktN_len l h most m
    have h2 := rowS_len l h most (h - m)
    show _ ≤ (sktN l h most m ++ rowS l h most (h - m)).length ∧ (sktN l h most m ++ rowS l h most (h - m)).length ≤ _
    rw [List.length_append, Nat.add_mul]
    omega
theorem sktN_bd {l : List Int} {h most : Int} {m : Nat} (hm : m ≤ 64) (hl : l.length ≤ 1024) : m ≤ (sktN l h most m).length ∧ (sktN l h most m).length ≤ 65600 := by
  have h1 := sktN_len l h most m
  have h2 := Nat.mul_le_mul hm (show l.length + 1 ≤ 1025 by omega)
  omega
/-- the error of what is drawn -/
def sktE (l : List Int) (h : Int) : Int := if l.length = 0 then 10 else if 1024 < l.length then 4 else if (h < 1 ∨ 64 < h) ∨ anyO l l.length = true then 3 else 0
def sktV (l : List Int) (h : Int) : Value := .tuple #[sv (if sktE l h = 0 then sktN l h (mxK l l.length) h.toNat else []), iv (sktE l h)]
theorem sk_a {l : List Int} {h : Int} (h1 : (l.length : Int) = 0) : .tuple #[sv [], iv 10] = sktV l h := by
  have e : sktE l h = 10 := if_pos (by omega)
  unfold sktV; rw [e]; rfl
theorem sk_b {l : List Int} {h : Int} (h2 : (1024 : Int) < (l.length : Int)) : .tuple #[sv [], iv 4] = sktV l h := by
  have e : sktE l h = 4 := by unfold sktE; rw [if_neg (by omega), if_pos (by omega)]
  unfold sktV; rw [e]; rfl
theorem sk_c {l : List Int} {h : Int} (h1 : ¬ (l.length : Int) = 0) (h2 : ¬ (1024 : Int) < (l.length : Int)) (h3 : (h < 1 ∨ 64 < h) ∨ anyO l l.length = true) : .tuple #[sv [], iv 3] = sktV l h := by
  have e : sktE l h = 3 := by unfold sktE; rw [if_neg (by omega), if_neg (by omega), if_pos h3]
  unfold sktV; rw [e]; rfl
theorem sk_ok {l : List Int} {h : Int} {m : Nat} (h1 : ¬ (l.length : Int) = 0) (h2 : ¬ (1024 : Int) < (l.length : Int)) (h3 : ¬ (h < 1 ∨ 64 < h)) (h4 : anyO l l.length = false) (hm : m = h.toNat) : .tuple #[sv (sktN l h (mxK l l.length) m), iv 0] = sktV l h := by
  have e : sktE l h = 0 := by unfold sktE; rw [if_neg (by omega), if_neg (by omega), if_neg (by rw [h4]; simpa using h3)]
  unfold sktV; rw [e, hm]; rfl
theorem chB_T {h k most n : Int} (h1 : 0 < most) (h2 : k * most ≤ n * h) : chB h k most n = 35 := if_pos ⟨h1, h2⟩
theorem chB_F {h k most n : Int} (h1 : ¬ (0 < most ∧ k * most ≤ n * h)) : chB h k most n = 32 := if_neg h1
theorem chB_rT {h k most n : Int} (h1 : 1 ≤ h) (hk : 1 ≤ k) (h2 : 0 ≤ n) (h3 : n ≤ most) (h4 : 0 < n) (h5 : k * most ≤ n * h) : chB h k most n = 35 := if_pos ((chB_ref h1 hk h2 h3).1 ⟨h4, h5⟩)
theorem chB_rF {h k most n : Int} (h1 : 1 ≤ h) (hk : 1 ≤ k) (h2 : 0 ≤ n) (h3 : n ≤ most) (h4 : ¬ (0 < n ∧ k * most ≤ n * h)) : chB h k most n = 32 := if_neg (fun hh => h4 ((chB_ref h1 hk h2 h3).2 hh))
theorem bc_set32 (l : List UInt8) (i : Nat) : (bc l).set i (.int .u8 32) = bc (l.set i 32) := bc_set l i 32
theorem bc_set35 (l : List UInt8) (i : Nat) : (bc l).set i (.int .u8 35) = bc (l.set i 35) := bc_set l i 35
theorem lnP_T {f : Int → UInt8} {l : List Int} {i : Nat} (hi : i < l.length) (hb : f (l.getD i 0) = 35) : ((lnP f l i).set i 32).set i 35 = lnP f l (i + 1) := by rw [List.set_set]; exact lnP_set hi hb
theorem mulI_bd {a b A B : Int} (h1 : 0 ≤ a) (h2 : a ≤ A) (h3 : 0 ≤ b) (h4 : b ≤ B) : 0 ≤ a * b ∧ a * b ≤ A * B := ⟨Int.mul_nonneg h1 h3, Int.mul_le_mul h2 h4 h3 (by omega)⟩
theorem sktN_ne {l : List Int} {h most : Int} {m : Nat} (hm : 0 < m) : sktN l h most m ≠ [] := fun e => by
  have := (sktN_len l h most m).1
  rw [e] at this
  simp at this
  omega
theorem row_len {l : List Int} {f : Int → UInt8} (hl : l.length ≤ 1024) : (trimR (l.map f)).length ≤ 1024 := by
  unfold trimR
  have := trimN_len (l.map f) (l.map f).length
  rw [List.length_map] at this ⊢
  omega
end Go.Proofs.YtapcgokcfmklbaaDoor
