/-
  Floats of 32 bits by their bits: which are NaNs, what an operation hands on of them, sums by halves. No program in sight. Conditions: none.
-/
import Derived.Test.YtapcgokcfmklbaaDoorSpec
namespace Go.Proofs.YtapcgokcfmklbaaDoor
open Go Go.RowKit

theorem read_nan {b : Nat} (h : nan32 b = true) : ∃ s f, Ieee.single.read b = .nan s f := by
  simp only [nan32, decide_eq_true_eq] at h
  have e1 : Ieee.single.signWeight = 0x80000000 := rfl
  have e2 : Ieee.single.binade = 0x800000 := rfl
  have e3 : Ieee.single.infRung = 0x7f800000 := rfl
  unfold Ieee.Format.read
  simp only [e1, e2, e3]
  rw [if_neg (by omega), if_neg (by omega), if_neg (by omega)]
  exact ⟨_, _, rfl⟩
theorem read_num {b : Nat} (h : nan32 b = false) : (∃ s m p, Ieee.single.read b = .number s m p) ∨ ∃ s, Ieee.single.read b = .infinity s := by
  simp only [nan32, decide_eq_false_iff_not, Nat.not_lt] at h
  have e1 : Ieee.single.signWeight = 0x80000000 := rfl
  have e2 : Ieee.single.binade = 0x800000 := rfl
  have e3 : Ieee.single.infRung = 0x7f800000 := rfl
  unfold Ieee.Format.read
  simp only [e1, e2, e3]
  split
  · exact .inl ⟨_, _, _, rfl⟩
  · split
    · exact .inl ⟨_, _, _, rfl⟩
    · rw [if_pos (by omega)]; exact .inr ⟨_, rfl⟩
theorem order_nan {a b : Nat} (h : nan32 a = true ∨ nan32 b = true) : Ieee.single.order a b = none := by
  unfold Ieee.Format.order
  rcases h with h | h
  · obtain ⟨s, f, e⟩ := read_nan h
    rw [e]; rfl
  · obtain ⟨s, f, e⟩ := read_nan h
    rw [e]
    cases Ieee.single.read a <;> rfl
theorem order_self {b : Nat} (h : nan32 b = false) : Ieee.single.order b b = some .eq := by
  unfold Ieee.Format.order
  rcases read_num h with ⟨s, m, p, e⟩ | ⟨s, e⟩ <;> rw [e]
  · simp [Ieee.Datum.order, Std.ReflCmp.compare_self]
  · simp [Ieee.Datum.order]
theorem fneq_self (b : Nat) : fcmpB .neq b b = nan32 b := by
  unfold fcmpB
  cases h : nan32 b
  · rw [order_self h]; rfl
  · rw [order_nan (.inl h)]; rfl
theorem nan_cl (b : Nat) : nan32 (cl b) = nan32 b := by
  unfold cl
  cases h : nan32 b
  · simp [h]
  · rfl
theorem cl_num {b : Nat} (h : nan32 b = false) : cl b = b := by unfold cl; rw [h]; rfl
theorem cl_nan {b : Nat} (h : nan32 b = true) : cl b = 0x7fc00000 := by unfold cl; rw [h]; rfl
theorem cl_cl (b : Nat) : cl (cl b) = cl b := by
  cases h : nan32 b
  · rw [cl_num (b := cl b) (by rw [nan_cl]; exact h)]
  · rw [cl_nan (b := cl b) (by rw [nan_cl]; exact h), cl_nan h]
/-- Alike but for which NaN. -/
theorem same_of_cl {a b : Nat} (h : cl a = cl b) : (nan32 a = true ∧ nan32 b = true) ∨ (nan32 a = false ∧ nan32 b = false ∧ a = b) := by
  have hn : nan32 a = nan32 b := by rw [← nan_cl a, h, nan_cl]
  cases ha : nan32 a
  · right
    have hb : nan32 b = false := hn ▸ ha
    refine ⟨rfl, hb, ?_⟩
    rw [cl_num ha, cl_num hb] at h
    exact h
  · left
    exact ⟨rfl, hn ▸ ha⟩
theorem order_cl (a b : Nat) : Ieee.single.order (cl a) (cl b) = Ieee.single.order a b := by
  cases ha : nan32 a
  · cases hb : nan32 b
    · rw [cl_num ha, cl_num hb]
    · rw [order_nan (.inr hb), order_nan (.inr (by rw [nan_cl]; exact hb))]
  · rw [order_nan (.inl ha), order_nan (.inl (by rw [nan_cl]; exact ha))]
theorem fcmpB_cl (op : BinOp) (a b : Nat) : fcmpB op (cl a) (cl b) = fcmpB op a b := by unfold fcmpB; rw [order_cl]
theorem fcmpB_congr {op : BinOp} {a b a' b' : Nat} (h1 : cl a = cl a') (h2 : cl b = cl b') : fcmpB op a b = fcmpB op a' b' := by
  rw [← fcmpB_cl op a b, h1, h2, fcmpB_cl]
theorem fop_nan {op : BinOp} {a b : Nat} (h : nan32 a = true ∨ nan32 b = true) : fop op a b = none := by
  rcases h with h | h
  · obtain ⟨s, f, e⟩ := read_nan h
    cases op <;> simp only [fop, Ieee.Format.add, Ieee.Format.sub, Ieee.Format.mul, Ieee.Format.div, e] <;> rfl
  · obtain ⟨s, f, e⟩ := read_nan h
    cases op <;> simp only [fop, Ieee.Format.add, Ieee.Format.sub, Ieee.Format.mul, Ieee.Format.div, e] <;> cases Ieee.single.read a <;> rfl
/-- What an operation gives, its NaN the one NaN. -/
def fo (op : BinOp) (a b : Nat) : Nat := cl ((fop op a b).getD 0x7fc00000)
theorem fo_congr {op : BinOp} {a b a' b' : Nat} (h1 : cl a = cl a') (h2 : cl b = cl b') : fo op a b = fo op a' b' := by
  unfold fo
  rcases same_of_cl h1 with ⟨g1, g2⟩ | ⟨_, _, rfl⟩
  · rw [fop_nan (.inl g1), fop_nan (.inl g2)]
  · rcases same_of_cl h2 with ⟨g1, g2⟩ | ⟨_, _, rfl⟩
    · rw [fop_nan (.inr g1), fop_nan (.inr g2)]
    · rfl
theorem FR.cl {op : BinOp} {a b r : Nat} (h : FR (fop op a b) r) : cl r = fo op a b := by
  unfold fo
  cases hf : fop op a b with
  | none => rw [hf] at h; exact cl_nan h
  | some s => rw [hf] at h; obtain rfl : r = s := h; rfl
theorem FR.cl' {op : BinOp} {a b a' b' r : Nat} (h : FR (fop op a b) r) (h1 : Go.Proofs.YtapcgokcfmklbaaDoor.cl a = Go.Proofs.YtapcgokcfmklbaaDoor.cl a') (h2 : Go.Proofs.YtapcgokcfmklbaaDoor.cl b = Go.Proofs.YtapcgokcfmklbaaDoor.cl b') : Go.Proofs.YtapcgokcfmklbaaDoor.cl r = fo op a' b' := by
  rw [h.cl, fo_congr h1 h2]
theorem cl_fo (op : BinOp) (a b : Nat) : cl (fo op a b) = fo op a b := cl_cl _

/-- A sum by halves. -/
def sumT : (fuel : Nat) → List Nat → Nat
  | 0, _ => 0
  | _ + 1, [] => 0
  | _ + 1, [x] => cl x
  | f + 1, l => fo .add (sumT f (l.take (l.length / 2))) (sumT f (l.drop (l.length / 2)))
theorem sumT_fuel : ∀ (f g : Nat) (l : List Nat), l.length ≤ f → l.length ≤ g → 0 < f → 0 < g → sumT f l = sumT g l
  | f + 1, g + 1, [], _, _, _, _ => rfl
  | f + 1, g + 1, [x], _, _, _, _ => rfl
  | f + 1, g + 1, a :: b :: l, hf, hg, _, _ => by
    simp only [List.length_cons] at hf hg
    simp only [sumT]
    have h1 : ((a :: b :: l).take ((a :: b :: l).length / 2)).length ≤ f := by simp only [List.length_take, List.length_cons]; omega
    have h2 : ((a :: b :: l).take ((a :: b :: l).length / 2)).length ≤ g := by simp only [List.length_take, List.length_cons]; omega
    have h3 : ((a :: b :: l).drop ((a :: b :: l).length / 2)).length ≤ f := by simp only [List.length_drop, List.length_cons]; omega
    have h4 : ((a :: b :: l).drop ((a :: b :: l).length / 2)).length ≤ g := by simp only [List.length_drop, List.length_cons]; omega
    rw [sumT_fuel f g _ h1 h2 (by omega) (by omega), sumT_fuel f g _ h3 h4 (by omega) (by omega)]
def sum (l : List Nat) : Nat := sumT (l.length + 1) l
theorem sum_nil : sum [] = 0 := rfl
theorem sum_one (x : Nat) : sum [x] = cl x := rfl
theorem sum_more {l : List Nat} (h : 2 ≤ l.length) : sum l = fo .add (sum (l.take (l.length / 2))) (sum (l.drop (l.length / 2))) := by
  match l, h with
  | a :: b :: l, h =>
    have e1 := sumT_fuel (a :: b :: l).length (((a :: b :: l).take ((a :: b :: l).length / 2)).length + 1) ((a :: b :: l).take ((a :: b :: l).length / 2)) (by simp only [List.length_take]; omega) (by omega) (by simp) (by omega)
    have e2 := sumT_fuel (a :: b :: l).length (((a :: b :: l).drop ((a :: b :: l).length / 2)).length + 1) ((a :: b :: l).drop ((a :: b :: l).length / 2)) (by simp only [List.length_drop]; omega) (by omega) (by simp) (by omega)
    unfold sum
    rw [← e1, ← e2]
    rfl
theorem cl_sum (l : List Nat) : cl (sum l) = sum l := by
  match l with
  | [] => rfl
  | [x] => exact cl_cl x
  | a :: b :: l => rw [sum_more (by simp)]; exact cl_fo _ _ _
end Go.Proofs.YtapcgokcfmklbaaDoor
