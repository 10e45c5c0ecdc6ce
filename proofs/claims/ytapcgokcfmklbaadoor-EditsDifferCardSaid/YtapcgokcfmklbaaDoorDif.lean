/-
  What stands in a frame of an edit list: plain. No program in sight. Conditions: none.
-/
import Derived.Test.YtapcgokcfmklbaaDoorEv
import Derived.Test.YtapcgokcfmklbaaDoorShr2
namespace Go.Proofs.YtapcgokcfmklbaaDoor
open Go Go.RowKit

/-- a shot, without its event -/
structure Sh where
  reel : List UInt8
  frame : Int
  back : List UInt8
  bf : Int
  share : Nat
deriving DecidableEq
def Sh.z : Sh := ⟨[], 0, [], 0, 0⟩
def hit (e : Ev) (f : Int) : Bool := decide (e.at_ ≤ f ∧ f < evEnd e)
/-- the first event, of the first k, that stands in f -/
def fst (l : List Ev) (f : Int) : Nat → Option Nat
  | 0 => none
  | k + 1 => match fst l f k with
    | some i => some i
    | none => if hit (l.getD k default) f = true then some k else none
theorem fst_no {l : List Ev} {f : Int} {k : Nat} (h : fst l f k = none) (h2 : ¬ ((l.getD k default).at_ ≤ f ∧ f < evEnd (l.getD k default))) : fst l f (k + 1) = none := by
  unfold fst
  rw [h]
  exact if_neg (by unfold hit; rw [decide_eq_true_eq]; exact h2)
theorem fst_yes {l : List Ev} {f : Int} {k : Nat} (h : fst l f k = none) (h2 : (l.getD k default).at_ ≤ f ∧ f < evEnd (l.getD k default)) : fst l f (k + 1) = some k := by
  unfold fst
  rw [h]
  exact if_pos (decide_eq_true h2)
theorem fst_stay {l : List Ev} {f : Int} {k i : Nat} (h : fst l f k = some i) : ∀ d, fst l f (k + d) = some i
  | 0 => h
  | d + 1 => by
    show fst l f (k + d + 1) = some i
    unfold fst
    rw [fst_stay h d]
theorem fst_le {l : List Ev} {f : Int} {k m i : Nat} (h : fst l f k = some i) (hm : k ≤ m) : fst l f m = some i := by
  have := fst_stay h (m - k)
  rwa [show k + (m - k) = m by omega] at this
/-- the shot at frame f of event i -/
def shOf (l : List Ev) (f : Int) (i : Nat) : Sh :=
  if f - (l.getD i default).at_ < (l.getD i default).len then
    ⟨(l.getD i default).reel, (l.getD i default).inn + f - (l.getD i default).at_, (l.getD (i - 1) default).reel, (l.getD (i - 1) default).inn + f - (l.getD (i - 1) default).at_, shB (f - (l.getD i default).at_ + 1).toNat ((l.getD i default).len + 1).toNat⟩
  else ⟨(l.getD i default).reel, (l.getD i default).inn + f - (l.getD i default).at_, [], 0, 1065353216⟩
def atR (l : List Ev) (f : Int) : Nat × Sh × Int := match fst l f l.length with
  | some i => (i, shOf l f i, 0)
  | none => (0, Sh.z, 11)
def shV (i : Nat) (s : Sh) : Value := .agg #[iv (i : Nat), sv s.reel, iv s.frame, sv s.back, iv s.bf, flt s.share]
def atV (x : Nat × Sh × Int) : Value := .tuple #[shV x.1 x.2.1, iv x.2.2]
theorem atR_none {l : List Ev} {f : Int} (h : fst l f l.length = none) : atR l f = (0, Sh.z, 11) := by unfold atR; rw [h]
theorem atR_some {l : List Ev} {f : Int} {k : Nat} (hk : k < l.length) (h : fst l f k = none) (h2 : (l.getD k default).at_ ≤ f ∧ f < evEnd (l.getD k default)) : atR l f = (k, shOf l f k, 0) := by
  unfold atR; rw [fst_le (fst_yes h h2) (by omega)]
theorem at_none {l : List Ev} {f : Int} {k : Nat} (hk : k = l.length) (h : fst l f k = none) : .tuple #[.agg #[iv 0, sv [], iv 0, sv [], iv 0, flt 0], iv 11] = atV (atR l f) := by
  subst hk; rw [atR_none h]; rfl
theorem at_cut {l : List Ev} {f : Int} {k : Nat} {e : Ev} (hk : k < l.length) (h : fst l f k = none) (he : l.getD k default = e) (h1 : e.at_ ≤ f ∧ f < evEnd e) (h2 : ¬ f - e.at_ < e.len) :
    .tuple #[.agg #[iv (k : Nat), sv e.reel, iv (e.inn + f - e.at_), sv [], iv 0, flt 1065353216], iv 0] = atV (atR l f) := by
  subst he
  rw [atR_some hk h h1]
  unfold shOf
  rw [if_neg h2]; rfl
theorem at_dis {l : List Ev} {f : Int} {k r : Nat} {e p : Ev} (hk : k < l.length) (h : fst l f k = none) (he : l.getD k default = e) (hp : l.getD (k - 1) default = p) (h1 : e.at_ ≤ f ∧ f < evEnd e) (h2 : f - e.at_ < e.len)
    (hr : r = shB (f - e.at_ + 1).toNat (e.len + 1).toNat) : .tuple #[.agg #[iv (k : Nat), sv e.reel, iv (e.inn + f - e.at_), sv p.reel, iv (p.inn + f - p.at_), flt r], iv 0] = atV (atR l f) := by
  subst he hp hr
  rw [atR_some hk h h1]
  unfold shOf
  rw [if_pos h2]; rfl
theorem sh_quo {a b : Int} {r : Nat} (h1 : 1 ≤ a) (h2 : a < b) (h3 : b ≤ 251) (hr : FR (fop .quo (cvF a) (cvF b)) r) : r = shB a.toNat b.toNat := by
  have h := (shB_ok (a := a.toNat) (b := b.toNat) (by omega) (by omega) (by omega)).1
  rw [Int.toNat_of_nonneg (by omega), Int.toNat_of_nonneg (by omega)] at h
  rw [h] at hr
  exact hr
end Go.Proofs.YtapcgokcfmklbaaDoor
