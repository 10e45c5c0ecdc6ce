/-
  Part 4 of what the proof leans on (Near, KFr, G3, Ops3, Str, Eq2, Pts, G4, KMem, G5). Conditions: as each theorem says.
-/
import Derived.Test.YtapcgokcfmklbaaY3
import Derived.Lib.AppendStr
import Derived.Lib.UnsafeStr
import Derived.Laws.Strings
namespace Go.Proofs.Ytapcgokcfmklbaa
open Go Go.RowKit

/-- compare doubles -/
def cmpD (op : BinOp) (a b : Nat) : Bool :=
  match op with
  | .lss => Ieee.double.order a b == some .lt
  | .gtr => Ieee.double.order a b == some .gt
  | _ => false
section
variable {P : Program} {W : World} {H : HL} {e : Env} {x y : Operand} {t t' ty : TypeId}
theorem QO.cmp64 {op : BinOp} {i j : Nat} (hx : ev e x = .float .f64 i) (hy : ev e y = .float .f64 j) (hop : op = .lss ∨ op = .gtr) : QO P W H e (.binOp op t x y t') ty (.bool (cmpD op i j)) := by
  refine QO.fcmp hx hy (fun w => ?_) ?_
  · rcases hop with h | h <;> subst h <;> rfl
  · rcases hop with h | h <;> subst h <;> simp
theorem QO.conv_i64_f64 {n : Int} (hu : P.underlying t = some (.int .i64)) (hu' : P.underlying t' = some (.float .f64)) (hx : ev e x = .int .i64 n) : QO P W H e (.convert t t' x) ty (.float .f64 (FloatKind.f64.nearest n)) := fun d pos af gd w _ => by
  simp only [execOp, hx, Sem.run_bind, Sem.run_pure]
  simp [convert, run_underlying hu, run_underlying hu', Conv.intToFloat]
theorem QO.conv_f64_i64 {d : Nat} {n : Int} (hu : (P.underlying t).isSome = true) (hu' : P.underlying t' = some (.int .i64)) (hx : ev e x = .float .f64 d) (h : floatToIntVal .f64 d .i64 = some n) : QO P W H e (.convert t t' x) ty (.int .i64 n) := fun d' pos af gd w _ => by
  have h1 := run_convert_float_int (P := P) (w := w) t t' .f64 .i64 d n hu hu' h
  simp only [execOp, hx, Sem.run_bind, Sem.run_pure]
  simp [h1]
end
def isNanD (d : Ieee.Datum) : Prop := ∃ s f, d = .nan s f
theorem word_not_nan (neg : Bool) {R : Nat} (hR : R ≤ 9218868437227405312) : ¬ isNanD (Ieee.double.read (Ieee.double.word neg R)) := by
  rintro ⟨s, f, h⟩
  have e1 : Ieee.double.signWeight = 9223372036854775808 := rfl
  have e2 : Ieee.double.binade = 4503599627370496 := rfl
  have e3 : Ieee.double.infRung = 9218868437227405312 := rfl
  have e4 : Ieee.double.word neg R % 9223372036854775808 = R := by
    unfold Ieee.Format.word
    rw [e1]
    split <;> omega
  unfold Ieee.Format.read at h
  simp only [e1, e2, e3, e4] at h
  split at h
  · cases h
  · split at h
    · cases h
    · split at h
      · cases h
      · omega
theorem write_not_nan {d : Ieee.Datum} (h : ¬ isNanD d) : ¬ isNanD (Ieee.double.read (Ieee.double.write d)) := by
  have e3 : Ieee.double.infRung = 9218868437227405312 := rfl
  cases d with
  | number s m i =>
    show ¬ isNanD (Ieee.double.read (Ieee.double.nearest s m i))
    unfold Ieee.Format.nearest
    split
    · exact word_not_nan _ (by omega)
    · exact word_not_nan _ (by rw [e3]; exact Nat.min_le_right _ _)
  | infinity s => exact word_not_nan _ (by rw [e3]; exact Nat.le_refl _)
  | nan s f => exact absurd ⟨s, f, rfl⟩ h
/-- a single that is no NaN, as a double -/
def wdD (v : Nat) : Nat := (floatToFloatBits .f32 v .f64).getD 0
theorem wdD_ok {v : Nat} (h : nan32 v = false) : floatToFloatBits .f32 v .f64 = some (wdD v) ∧ ¬ isNanD (Ieee.double.read (wdD v)) := by
  rcases read_num h with ⟨s, m, p, e⟩ | ⟨s, e⟩
  · have h1 := wide_conv e
    have h2 : wdD v = Ieee.double.nearest s m p := by unfold wdD; rw [h1]; rfl
    refine ⟨by rw [h2]; exact h1, ?_⟩
    rw [h2]
    exact write_not_nan (d := .number s m p) (by rintro ⟨_, _, h⟩; cases h)
  · have h1 : floatToFloatBits .f32 v .f64 = some (Ieee.double.write (.infinity s)) := by
      unfold floatToFloatBits
      rw [if_neg (by decide)]
      have e2 : FloatKind.f32.decode v = .infinity s := e
      rw [e2]; rfl
    have h2 : wdD v = Ieee.double.write (.infinity s) := by unfold wdD; rw [h1]; rfl
    refine ⟨by rw [h2]; exact h1, ?_⟩
    rw [h2]
    exact write_not_nan (d := .infinity s) (by rintro ⟨_, _, h⟩; cases h)
/-- made whole, to the nearest, the even one between two -/
def rteD (d : Nat) : Nat := FloatKind.f64.encode ((FloatKind.f64.decode d).integral .even)
theorem rteD_ok {d : Nat} (h : ¬ isNanD (Ieee.double.read d)) : ¬ isNanD (Ieee.double.read (rteD d)) := by
  refine write_not_nan ?_
  show ¬ isNanD ((Ieee.double.read d).integral .even)
  cases hd : Ieee.double.read d with
  | number s m i => rintro ⟨_, _, h⟩; cases h
  | infinity s => rintro ⟨_, _, h⟩; cases h
  | nan s f => exact absurd ⟨s, f, hd⟩ h
theorem rte_form (name : String) (x : Nat) : ∃ N : Bool → Nat → Sem Value, Extern.MathFloor.toIntegral name .even #[.float .f64 x] =
    (match FloatKind.f64.decode x with
    | .nan s t => N s t
    | d => pure (.float .f64 (FloatKind.f64.encode (d.integral .even)))) := ⟨_, rfl⟩
theorem rte_run {x : Nat} (h : ¬ isNanD (Ieee.double.read x)) (name : String) (P : Program) (w : World) : (Extern.MathFloor.toIntegral name .even #[.float .f64 x]).run P w = .ok (.float .f64 (rteD x)) w := by
  obtain ⟨N, hN⟩ := rte_form name x
  rw [hN]
  unfold rteD
  cases hd : Ieee.double.read x with
  | number s m i =>
    have e : FloatKind.f64.decode x = .number s m i := hd
    rw [e]
    rfl
  | infinity s =>
    have e : FloatKind.f64.decode x = .infinity s := hd
    rw [e]
    rfl
  | nan s f => exact absurd ⟨s, f, hd⟩ h
def loD : Nat := FloatKind.f64.nearest (-1048576)
def hiD : Nat := FloatKind.f64.nearest 1048576
theorem loD_read : Ieee.double.read loD = .number true 4503599627370496 (-32) := by decide +kernel
theorem hiD_read : Ieee.double.read hiD = .number false 4503599627370496 (-32) := by decide +kernel
theorem cut_zero (neg : Bool) (n k : Nat) : Ieee.Toward.zero.cut neg n k = n / 2 ^ k := by
  unfold Ieee.Toward.cut
  simp only [Bool.toNat_false, Nat.add_zero, Nat.shiftLeft_eq, Nat.one_mul]
  rcases Nat.le_total k (n.log2 + 2) with h | h
  · rw [Nat.min_eq_left h]
  · rw [Nat.min_eq_right h, Nat.div_eq_of_lt, Nat.div_eq_of_lt]
    · exact Nat.lt_of_lt_of_le Nat.lt_log2_self (Nat.pow_le_pow_right (by omega) (by omega))
    · exact Nat.lt_of_lt_of_le Nat.lt_log2_self (Nat.pow_le_pow_right (by omega) (by omega))
theorem signed_abs {s : Bool} {m u B : Nat} (h1 : -(B : Int) ≤ Ieee.signed s m u) (h2 : Ieee.signed s m u ≤ B) : m * 2 ^ u ≤ B := by
  have := val_abs s m u
  omega
/-- between the bounds: a whole number between the bounds -/
theorem int_within {r : Nat} (h0 : ¬ isNanD (Ieee.double.read r)) (h1 : cmpD .lss r loD = false) (h2 : cmpD .gtr r hiD = false) : ∃ n, floatToIntVal .f64 r .i64 = some n ∧ -1048576 ≤ n ∧ n ≤ 1048576 := by
  unfold cmpD Ieee.Format.order at h1 h2
  rw [loD_read] at h1
  rw [hiD_read] at h2
  cases hd : Ieee.double.read r with
  | nan s f => exact absurd ⟨s, f, hd⟩ h0
  | infinity s =>
    rw [hd] at h1 h2
    cases s
    · exact absurd h2 (by decide)
    · exact absurd h1 (by decide)
  | number s m i =>
    rw [hd] at h1 h2
    have k1 : ¬ Ieee.signed s m (i - min i (-32)).toNat < Ieee.signed true 4503599627370496 (-32 - min i (-32)).toNat := fun h => by
      have e : (Ieee.Datum.number s m i).order (.number true 4503599627370496 (-32)) = some .lt := congrArg some (by rw [Int.compare_eq_lt]; exact h)
      rw [e] at h1; exact absurd h1 (by decide)
    have k2 : ¬ Ieee.signed false 4503599627370496 (-32 - min i (-32)).toNat < Ieee.signed s m (i - min i (-32)).toNat := fun h => by
      have e : (Ieee.Datum.number s m i).order (.number false 4503599627370496 (-32)) = some .gt := congrArg some (by rw [Int.compare_eq_gt]; exact h)
      rw [e] at h2; exact absurd h2 (by decide)
    have eT : ∀ u, Ieee.signed true 4503599627370496 u = -((4503599627370496 * 2 ^ u : Nat) : Int) := fun u => by unfold Ieee.signed; rw [if_pos rfl, Nat.shiftLeft_eq]
    have eF : ∀ u, Ieee.signed false 4503599627370496 u = ((4503599627370496 * 2 ^ u : Nat) : Int) := fun u => by unfold Ieee.signed; rw [if_neg (by decide), Nat.shiftLeft_eq]
    rw [eT] at k1
    rw [eF] at k2
    have hb := signed_abs (Int.not_lt.1 k1) (Int.not_lt.1 k2)
    have hq : m * 2 ^ i.toNat / 2 ^ (-i).toNat ≤ 1048576 := by
      have c : (4503599627370496 : Nat) = 1048576 * 2 ^ 32 := by decide
      rcases Int.lt_or_le i (-32) with hi | hi
      · have a1 : (i - min i (-32)).toNat = 0 := by omega
        have a2 : (-i).toNat = 32 + (-32 - min i (-32)).toNat := by omega
        rw [a1, Nat.pow_zero, Nat.mul_one, c, Nat.mul_assoc, ← Nat.pow_add, ← a2] at hb
        have a3 : i.toNat = 0 := by omega
        rw [a3, Nat.pow_zero, Nat.mul_one]
        exact Nat.div_le_of_le_mul (by rw [Nat.mul_comm]; exact hb)
      · have a1 : (-32 - min i (-32)).toNat = 0 := by omega
        have a2 : (i - min i (-32)).toNat = (i + 32).toNat := by omega
        rw [a1, a2, Nat.pow_zero, Nat.mul_one, c] at hb
        rcases Int.lt_or_le i 0 with h0 | h0
        · have a3 : i.toNat = 0 := by omega
          have a4 : 32 = (i + 32).toNat + (-i).toNat := by omega
          rw [a3, Nat.pow_zero, Nat.mul_one]
          refine Nat.div_le_of_le_mul ?_
          have a5 : (2 : Nat) ^ 32 = 2 ^ (i + 32).toNat * 2 ^ (-i).toNat := by rw [← Nat.pow_add, ← a4]
          rw [a5, Nat.mul_comm (2 ^ (i + 32).toNat), ← Nat.mul_assoc] at hb
          have := Nat.le_of_mul_le_mul_right hb (Nat.two_pow_pos _)
          rw [Nat.mul_comm]; exact this
        · have a3 : (-i).toNat = 0 := by omega
          have a4 : (i + 32).toNat = i.toNat + 32 := by omega
          rw [a3, Nat.pow_zero, Nat.div_one]
          rw [a4, Nat.pow_add, ← Nat.mul_assoc] at hb
          exact Nat.le_of_mul_le_mul_right hb (Nat.two_pow_pos _)
    have hI : (FloatKind.f64.decode r).toInt .zero = some (Ieee.signed s (m * 2 ^ i.toNat / 2 ^ (-i).toNat) 0) := by
      have e : FloatKind.f64.decode r = .number s m i := hd
      rw [e]
      unfold Ieee.Datum.toInt Ieee.Datum.integral
      simp only [cut_zero, Nat.shiftLeft_eq]
    have hv := val_abs s (m * 2 ^ i.toNat / 2 ^ (-i).toNat) 0
    rw [Nat.pow_zero, Nat.mul_one] at hv
    refine ⟨Ieee.signed s (m * 2 ^ i.toNat / 2 ^ (-i).toNat) 0, ?_, by omega, by omega⟩
    · unfold floatToIntVal
      rw [hI]
      have q1 : IntKind.i64.min = -9223372036854775808 := by decide
      have q2 : IntKind.i64.max = 9223372036854775807 := by decide
      simp only [q1, q2]
      exact if_pos ⟨by omega, by omega⟩
/-- Near, between -1048576 and 1048576 -/
def nearI (v : Nat) : Int := if nan32 v then -1048576 else if cmpD .lss (rteD (wdD v)) loD then -1048576 else if cmpD .gtr (rteD (wdD v)) hiD then 1048576 else (floatToIntVal .f64 (rteD (wdD v)) .i64).getD 0
theorem nearI_nan {v : Nat} (h : nan32 v = true) : -1048576 = nearI v := (if_pos h).symm
theorem nearI_lo {v : Nat} (h : nan32 v = false) (h1 : cmpD .lss (rteD (wdD v)) loD = true) : -1048576 = nearI v := by unfold nearI; rw [if_neg (by rw [h]; decide), if_pos h1]
theorem nearI_hi {v : Nat} (h : nan32 v = false) (h1 : cmpD .lss (rteD (wdD v)) loD = false) (h2 : cmpD .gtr (rteD (wdD v)) hiD = true) : 1048576 = nearI v := by unfold nearI; rw [if_neg (by rw [h]; decide), if_neg (by rw [h1]; decide), if_pos h2]
theorem nearI_in {v : Nat} (h : nan32 v = false) (h1 : cmpD .lss (rteD (wdD v)) loD = false) (h2 : cmpD .gtr (rteD (wdD v)) hiD = false) : floatToIntVal .f64 (rteD (wdD v)) .i64 = some (nearI v) := by
  obtain ⟨n, h3, _⟩ := int_within (rteD_ok (wdD_ok h).2) h1 h2
  unfold nearI
  rw [if_neg (by rw [h]; decide), if_neg (by rw [h1]; decide), if_neg (by rw [h2]; decide), h3]; rfl
end Go.Proofs.Ytapcgokcfmklbaa

namespace Go.Proofs.Ytapcgokcfmklbaa
open Go Go.RowKit

/-! windows' bounds -/
theorem numB_num {q : Nat} (h : numB q = true) : nan32 q = false := by
  cases hn : nan32 q
  · rfl
  · obtain ⟨s, f, e⟩ := read_nan hn
    unfold numB at h
    rw [e] at h; cases h
theorem ord_some {a b : Nat} (ha : nan32 a = false) (hb : nan32 b = false) : ∃ o, Ieee.single.order a b = some o := by
  unfold Ieee.Format.order
  rcases read_num ha with ⟨s, m, p, e⟩ | ⟨s, e⟩ <;> rcases read_num hb with ⟨t, n, q, e2⟩ | ⟨t, e2⟩ <;> rw [e, e2] <;> exact ⟨_, rfl⟩
theorem in_out {q lo hi : Nat} (h : nan32 q = false) (h1 : nan32 lo = false) (h2 : nan32 hi = false) : inF q lo hi = !outF q lo hi := by
  obtain ⟨o1, e1⟩ := ord_some h h1
  obtain ⟨o2, e2⟩ := ord_some h h2
  unfold inF outF fcmpB
  rw [e1, e2]
  cases o1 <;> cases o2 <;> rfl
theorem cvF_lo : cvF (-1048576) = 3380609024 := by decide +kernel
theorem cvF_hi : cvF 1048576 = 1233125376 := by decide +kernel
theorem cvF_soft : cvF 4096 = 1166016512 := by decide +kernel
theorem in_place {q : Nat} (h : numB q = true) : inF q (cvF (-1048576)) (cvF 1048576) = !outF q 3380609024 1233125376 := by rw [cvF_lo, cvF_hi]; exact in_out (numB_num h) (by decide) (by decide)
theorem in_size {q : Nat} (h : numB q = true) : inF q (cvF 0) (cvF 1048576) = !outF q 0 1233125376 := by rw [cvF_0, cvF_hi]; exact in_out (numB_num h) (by decide) (by decide)
theorem in_soft {q : Nat} (h : numB q = true) : inF q (cvF 0) (cvF 4096) = !outF q 0 1166016512 := by rw [cvF_0, cvF_soft]; exact in_out (numB_num h) (by decide) (by decide)
theorem numW_all {u : Win} (h : numW u = true) : numB u.x = true ∧ numB u.y = true ∧ numB u.w = true ∧ numB u.h = true ∧ numB u.soft = true := by
  unfold numW numsB at h
  simpa using h
/-! key frames -/
def frE1 (l : List KF) (i : Nat) : Int :=
  let k := l.getD i default
  let a := (l.getD 0 default).win
  if k.frame < 0 ∨ 16777216 < k.frame then 3
  else if k.ease < 1 ∨ 3 < k.ease then 1
  else if winE k.win ≠ 0 then winE k.win
  else if 0 < i ∧ k.frame ≤ (l.getD (i - 1) default).frame then 8
  else if k.win.kind ≠ a.kind ∨ k.win.out ≠ a.out ∨ k.win.pts.length ≠ a.pts.length then 12
  else 0
def frE (l : List KF) : Int := if l.length = 0 then 10 else if 100 < l.length then 4 else firstE (frE1 l) l.length
section
variable {l : List KF} {i : Nat} {k : KF} {a : Win}
theorem frE1_1 (hk : l.getD i default = k) (h : k.frame < 0 ∨ 16777216 < k.frame) : frE1 l i = 3 := by unfold frE1; simp only [hk]; exact if_pos h
theorem frE1_2 (hk : l.getD i default = k) (h : ¬ (k.frame < 0 ∨ 16777216 < k.frame)) (h1 : k.ease < 1 ∨ 3 < k.ease) : frE1 l i = 1 := by unfold frE1; simp only [hk]; rw [if_neg h, if_pos h1]
theorem frE1_3 (hk : l.getD i default = k) (h : ¬ (k.frame < 0 ∨ 16777216 < k.frame)) (h1 : ¬ (k.ease < 1 ∨ 3 < k.ease)) (h2 : winE k.win ≠ 0) : frE1 l i = winE k.win := by unfold frE1; simp only [hk]; rw [if_neg h, if_neg h1, if_pos h2]
theorem frE1_4 (hk : l.getD i default = k) (h : ¬ (k.frame < 0 ∨ 16777216 < k.frame)) (h1 : ¬ (k.ease < 1 ∨ 3 < k.ease)) (h2 : winE k.win = 0) (h3 : 0 < i) {p : KF} (hp : l.getD (i - 1) default = p) (h4 : k.frame ≤ p.frame) : frE1 l i = 8 := by unfold frE1; simp only [hk, hp]; rw [if_neg h, if_neg h1, if_neg (by simpa using h2), if_pos ⟨h3, h4⟩]
theorem frE1_5 (hk : l.getD i default = k) (ha : (l.getD 0 default).win = a) (h : ¬ (k.frame < 0 ∨ 16777216 < k.frame)) (h1 : ¬ (k.ease < 1 ∨ 3 < k.ease)) (h2 : winE k.win = 0) (h3 : ¬ (0 < i ∧ k.frame ≤ (l.getD (i - 1) default).frame))
    (h4 : k.win.kind ≠ a.kind ∨ k.win.out ≠ a.out ∨ k.win.pts.length ≠ a.pts.length) : frE1 l i = 12 := by unfold frE1; simp only [hk, ha]; rw [if_neg h, if_neg h1, if_neg (by simpa using h2), if_neg h3, if_pos h4]
theorem frE1_0 (hk : l.getD i default = k) (ha : (l.getD 0 default).win = a) (h : ¬ (k.frame < 0 ∨ 16777216 < k.frame)) (h1 : ¬ (k.ease < 1 ∨ 3 < k.ease)) (h2 : winE k.win = 0) (h3 : ¬ (0 < i ∧ k.frame ≤ (l.getD (i - 1) default).frame))
    (h4 : ¬ (k.win.kind ≠ a.kind ∨ k.win.out ≠ a.out ∨ k.win.pts.length ≠ a.pts.length)) : frE1 l i = 0 := by unfold frE1; simp only [hk, ha]; rw [if_neg h, if_neg h1, if_neg (by simpa using h2), if_neg h3, if_neg h4]
theorem frE1_ok (h : frE1 l i = 0) (hk : l.getD i default = k) : 0 ≤ k.frame ∧ k.frame ≤ 16777216 ∧ 1 ≤ k.ease ∧ k.ease ≤ 3 ∧ winE k.win = 0 ∧ (0 < i → (l.getD (i - 1) default).frame < k.frame) ∧ k.win.kind = (l.getD 0 default).win.kind ∧ k.win.out = (l.getD 0 default).win.out ∧ k.win.pts.length = (l.getD 0 default).win.pts.length := by
  unfold frE1 at h
  simp only [hk] at h
  split at h
  · omega
  · split at h
    · omega
    · split at h
      · omega
      · split at h
        · omega
        · rename_i q1 q2 q3 q4
          split at h
          · omega
          · rename_i q5
            have q6 : ¬ k.win.out ≠ (l.getD 0 default).win.out := fun h => q5 (.inr (.inl h))
            refine ⟨by omega, by omega, by omega, by omega, by omega, fun h0 => ?_, by omega, Decidable.not_not.1 q6, by omega⟩
            exact Int.not_le.1 fun h1 => q4 ⟨h0, h1⟩
end
theorem firstE_all {f : Nat → Int} : ∀ {n : Nat}, firstE f n = 0 → ∀ i, i < n → f i = 0
  | 0, _, i, hi => absurd hi (Nat.not_lt_zero _)
  | n + 1, h, i, hi => by
    unfold firstE at h
    split at h
    · omega
    · rename_i h1
      by_cases e : i = n
      · subst e; exact h
      · exact firstE_all (n := n) (by omega) i (by omega)
theorem frE_ok {l : List KF} (h : frE l = 0) : 1 ≤ l.length ∧ l.length ≤ 100 ∧ ∀ i, i < l.length → frE1 l i = 0 := by
  unfold frE at h
  split at h
  · omega
  · split at h
    · omega
    · exact ⟨by omega, by omega, firstE_all h⟩
theorem frE_n {l : List KF} (h : ¬ l.length = 0) (h2 : ¬ 100 < l.length) : frE l = firstE (frE1 l) l.length := by unfold frE; rw [if_neg h, if_neg h2]
theorem frE_at {l : List KF} {i : Nat} (h0 : l.length ≤ 100) (h : firstE (frE1 l) i = 0) (hi : i < l.length) (h2 : frE1 l i ≠ 0) : frE l = frE1 l i := by
  rw [frE_n (by omega) (by omega)]; exact firstE_at h h2 hi
theorem frE_0 {l : List KF} (h1 : 1 ≤ l.length) (h0 : l.length ≤ 100) {i : Nat} (h : firstE (frE1 l) i = 0) (hi : i = l.length) : frE l = 0 := by
  rw [frE_n (by omega) (by omega), ← hi]; exact h
/-- how many of the first frames are not past f -/
def cntK (f : Int) : List KF → Nat
  | [] => 0
  | k :: l => if k.frame ≤ f then cntK f l + 1 else 0
theorem cntK_is {f : Int} : ∀ {l : List KF} {n : Nat}, n ≤ l.length → (∀ i, i < n → (l.getD i default).frame ≤ f) → (n = l.length ∨ f < (l.getD n default).frame) → cntK f l = n
  | [], n, h, _, _ => by simp at h; subst h; rfl
  | k :: l, 0, h, h1, h2 => by
    have h3 : f < k.frame := by simpa using h2
    exact if_neg (by omega)
  | k :: l, n + 1, h, h1, h2 => by
    have h3 : k.frame ≤ f := h1 0 (by omega)
    unfold cntK
    rw [if_pos h3, cntK_is (n := n) (by simpa using h) (fun i hi => h1 (i + 1) (by omega)) (by simpa using h2)]
theorem frames_up {l : List KF} (h : ∀ i, i < l.length → frE1 l i = 0) : ∀ (d i : Nat), i + d < l.length → (l.getD i default).frame ≤ (l.getD (i + d) default).frame
  | 0, i, _ => Int.le_refl _
  | d + 1, i, hd => by
    have h1 := frames_up h d i (by omega)
    have h2 := (frE1_ok (h (i + d + 1) (by omega)) rfl).2.2.2.2.2.1 (by omega)
    rw [show i + d + 1 - 1 = i + d by omega] at h2
    rw [show i + (d + 1) = i + d + 1 by omega]
    omega
theorem cntK_at {l : List KF} (h : ∀ i, i < l.length → frE1 l i = 0) {i : Nat} (hi : i < l.length) : cntK (l.getD i default).frame l = i + 1 := by
  refine cntK_is (by omega) (fun j hj => ?_) ?_
  · have := frames_up h (i - j) j (by omega)
    rwa [show j + (i - j) = i by omega] at this
  · by_cases e : i + 1 = l.length
    · exact .inl e
    · exact .inr ((frE1_ok (h (i + 1) (by omega)) rfl).2.2.2.2.2.1 (by omega))
/-! between -/
def limV (t : Nat) : Nat := if fcmpB .lss t 0 then 0 else if fcmpB .gtr t 1065353216 then 1065353216 else cl t
def smoothV (t : Nat) : Nat := fo .mul (fo .mul (limV t) (limV t)) (fo .sub 1077936128 (fo .mul 1073741824 (limV t)))
theorem smoothV_is {t a b c d : Nat} (ha : FR (fop .mul (limV t) (limV t)) a) (hb : FR (fop .mul 1073741824 (limV t)) b) (hc : FR (fop .sub 1077936128 b) c) (hd : FR (fop .mul a c) d) : cl d = smoothV t := by
  exact hd.cl' (ha.cl.trans (cl_fo ..).symm) ((hc.cl' rfl (hb.cl.trans (cl_fo ..).symm)).trans (cl_fo ..).symm)
def tV0 (p q : Int) : Nat := (fop .quo (cvF p) (cvF q)).getD 0
theorem cv_pos {q : Int} (h : 1 ≤ q) (h2 : q ≤ 16777216) : ∃ m i, Ieee.single.read (cvF q) = .number false m i ∧ m ≠ 0 ∧ 0 ≤ i + (m.log2 : Int) := by
  by_cases e : q = 16777216
  · subst e
    exact ⟨8388608, 1, by decide +kernel, by decide, by decide +kernel⟩
  · obtain ⟨m, i, h3, _, h4⟩ := cv_whole (n := q) (by omega)
    obtain ⟨h5, h6⟩ := h4 (by omega)
    rw [decide_eq_false (by omega)] at h3
    exact ⟨m, i, h3, h5, by omega⟩
theorem t_div {p q : Int} (h0 : 0 ≤ p) (h1 : p < q) (h2 : q ≤ 16777216) : fop .quo (cvF p) (cvF q) = some (tV0 p q) ∧
    ∃ X Y Z, floatToFloatBits .f32 (cvF p) .f64 = some X ∧ floatToFloatBits .f32 (cvF q) .f64 = some Y ∧ Ieee.double.div X Y = some Z ∧ floatToFloatBits .f64 Z .f32 = some (tV0 p q) := by
  obtain ⟨m, i, h3, h4, h5⟩ := cv_pos (q := q) (by omega) h2
  obtain ⟨r, h6, _, h7⟩ := fb_div (A := 24) (C := 0) (cv_fb (n := p) (by omega)) h3 h4 h5 (by omega) (by omega)
  have h8 : tV0 p q = r := by unfold tV0; rw [h6]; rfl
  rw [h8]; exact ⟨h6, h7⟩
/-- how far between two key frames -/
def tV (a b : KF) (f : Int) : Nat := if a.ease = 3 then smoothV (tV0 (f - a.frame) (b.frame - a.frame)) else if a.ease = 1 then 0 else tV0 (f - a.frame) (b.frame - a.frame)
theorem tV_3 {a b : KF} {f : Int} (h : a.ease = 3) : tV a b f = smoothV (tV0 (f - a.frame) (b.frame - a.frame)) := if_pos h
theorem tV_1 {a b : KF} {f : Int} (h : a.ease = 1) : tV a b f = 0 := by unfold tV; rw [if_neg (by omega), if_pos h]
theorem tV_2 {a b : KF} {f : Int} (h : ¬ a.ease = 3) (h1 : ¬ a.ease = 1) : tV a b f = tV0 (f - a.frame) (b.frame - a.frame) := by unfold tV; rw [if_neg h, if_neg h1]
def mixP (p q : Int × Int) (t : Nat) : Int × Int := (nearI (lerpV (cvF p.1) (cvF q.1) t), nearI (lerpV (cvF p.2) (cvF q.2) t))
/-- the first n points mixed, the others as they are -/
def mixPs (ps qs : List (Int × Int)) (t n : Nat) : List (Int × Int) := (List.range ps.length).map fun i => if i < n then mixP (ps.getD i (0, 0)) (qs.getD i (0, 0)) t else ps.getD i (0, 0)
theorem mixPs_len (ps qs : List (Int × Int)) (t n : Nat) : (mixPs ps qs t n).length = ps.length := by simp [mixPs]
theorem mixPs_0 (ps qs : List (Int × Int)) (t : Nat) : mixPs ps qs t 0 = ps := by
  refine List.ext_getElem (mixPs_len ..) (fun i h1 h2 => ?_)
  simp [mixPs, List.getD, h2]
theorem mixPs_at {ps qs : List (Int × Int)} {t n i : Nat} (hi : i < ps.length) : (mixPs ps qs t n).getD i (0, 0) = if i < n then mixP (ps.getD i (0, 0)) (qs.getD i (0, 0)) t else ps.getD i (0, 0) := by
  rw [List.getD_eq_getElem?_getD, mixPs, List.getElem?_map, List.getElem?_range hi]; rfl
def mixW (a b : Win) (t : Nat) : Win := ⟨a.kind, lerpV a.x b.x t, lerpV a.y b.y t, lerpV a.w b.w t, lerpV a.h b.h t, lerpV a.soft b.soft t, mixPs a.pts b.pts t a.pts.length, a.out⟩
/-- the window of a frame -/
def betw (l : List KF) (f : Int) : Win :=
  let i := cntK f l
  if i = 0 then (l.getD 0 default).win
  else if i = l.length ∨ (l.getD (i - 1) default).frame = f then (l.getD (i - 1) default).win
  else mixW (l.getD (i - 1) default).win (l.getD i default).win (tV (l.getD (i - 1) default) (l.getD i default) f)
theorem betw_0 {l : List KF} {f : Int} (h : cntK f l = 0) : betw l f = (l.getD 0 default).win := if_pos h
theorem betw_1 {l : List KF} {f : Int} {i : Nat} (h : cntK f l = i) (h0 : i ≠ 0) (h1 : i = l.length ∨ (l.getD (i - 1) default).frame = f) : betw l f = (l.getD (i - 1) default).win := by
  unfold betw; simp only [h]; rw [if_neg h0, if_pos h1]
theorem betw_2 {l : List KF} {f : Int} {i : Nat} (h : cntK f l = i) (h0 : i ≠ 0) (h1 : ¬ (i = l.length ∨ (l.getD (i - 1) default).frame = f)) : betw l f = mixW (l.getD (i - 1) default).win (l.getD i default).win (tV (l.getD (i - 1) default) (l.getD i default) f) := by
  unfold betw; simp only [h]; rw [if_neg h0, if_neg h1]
/-- at a key frame: that of the key frame -/
theorem betw_at {l : List KF} (h : frE l = 0) {i : Nat} (hi : i < l.length) : betw l (l.getD i default).frame = (l.getD i default).win := by
  rw [betw_1 (cntK_at (frE_ok h).2.2 hi) (by omega) (.inr (by rw [Nat.add_sub_cancel])), Nat.add_sub_cancel]
/-! moved -/
theorem place_fb {x : Nat} (hn : numB x = true) (h : outF x 3380609024 1233125376 = false) : fb x 24 := by
  have hr1 : Ieee.single.read 3380609024 = .number true 8388608 (-3) := by decide +kernel
  have hr2 : Ieee.single.read 1233125376 = .number false 8388608 (-3) := by decide +kernel
  unfold outF at h
  rw [Bool.or_eq_false_iff] at h
  obtain ⟨h1, h2⟩ := h
  unfold fcmpB Ieee.Format.order at h1 h2
  rw [hr1] at h1
  rw [hr2] at h2
  unfold numB at hn
  cases hd : Ieee.single.read x with
  | nan s f => rw [hd] at hn; cases hn
  | infinity s => rw [hd] at hn; cases hn
  | number s m i =>
    rw [hd] at h1 h2
    have k1 : ¬ Ieee.signed s m (i - min i (-3)).toNat < Ieee.signed true 8388608 (-3 - min i (-3)).toNat := fun h => by
      have e : (Ieee.Datum.number s m i).order (.number true 8388608 (-3)) = some .lt := congrArg some (by rw [Int.compare_eq_lt]; exact h)
      rw [e] at h1; exact absurd h1 (by decide)
    have k2 : ¬ Ieee.signed false 8388608 (-3 - min i (-3)).toNat < Ieee.signed s m (i - min i (-3)).toNat := fun h => by
      have e : (Ieee.Datum.number s m i).order (.number false 8388608 (-3)) = some .gt := congrArg some (by rw [Int.compare_eq_gt]; exact h)
      rw [e] at h2; exact absurd h2 (by decide)
    have eT : ∀ u, Ieee.signed true 8388608 u = -((8388608 * 2 ^ u : Nat) : Int) := fun u => by unfold Ieee.signed; rw [if_pos rfl, Nat.shiftLeft_eq]
    have eF : ∀ u, Ieee.signed false 8388608 u = ((8388608 * 2 ^ u : Nat) : Int) := fun u => by unfold Ieee.signed; rw [if_neg (by decide), Nat.shiftLeft_eq]
    rw [eT] at k1
    rw [eF] at k2
    have hb := signed_abs (Int.not_lt.1 k1) (Int.not_lt.1 k2)
    refine ⟨s, m, i, hd, ?_⟩
    by_cases h0 : m = 0
    · exact .inl h0
    · right
      have c : (8388608 : Nat) = 2 ^ 23 := by decide
      rw [c, ← Nat.pow_add] at hb
      have h3 := log_le (Nat.mul_ne_zero h0 (Nat.ne_of_gt (Nat.two_pow_pos _))) hb
      rw [log2_up h0] at h3
      omega
def addV (x : Nat) (d : Int) : Nat := (fop .add x (cvF d)).getD 0
theorem add_moved {x : Nat} {d : Int} (hn : numB x = true) (h : outF x 3380609024 1233125376 = false) (hd : d.natAbs ≤ 16777215) : fop .add x (cvF d) = some (addV x d) ∧
    ∃ X Y Z, floatToFloatBits .f32 x .f64 = some X ∧ floatToFloatBits .f32 (cvF d) .f64 = some Y ∧ Ieee.double.add X Y = some Z ∧ floatToFloatBits .f64 Z .f32 = some (addV x d) := by
  obtain ⟨r, h6, _, h7⟩ := fb_add (place_fb hn h) (cv_fb hd) (by omega) (by omega)
  have h8 : addV x d = r := by unfold addV; rw [h6]; rfl
  rw [h8]; exact ⟨h6, h7⟩
def movP (p : Int × Int) (dx dy : Int) : Int × Int := (p.1 + dx, p.2 + dy)
/-- the first n points moved -/
def movPs (ps : List (Int × Int)) (dx dy : Int) (n : Nat) : List (Int × Int) := (List.range ps.length).map fun i => if i < n then movP (ps.getD i (0, 0)) dx dy else ps.getD i (0, 0)
theorem movPs_len (ps : List (Int × Int)) (dx dy : Int) (n : Nat) : (movPs ps dx dy n).length = ps.length := by simp [movPs]
theorem movPs_0 (ps : List (Int × Int)) (dx dy : Int) : movPs ps dx dy 0 = ps := by
  refine List.ext_getElem (movPs_len ..) (fun i h1 h2 => ?_)
  simp [movPs, List.getD, h2]
theorem movPs_at {ps : List (Int × Int)} {dx dy : Int} {n i : Nat} (hi : i < ps.length) : (movPs ps dx dy n).getD i (0, 0) = if i < n then movP (ps.getD i (0, 0)) dx dy else ps.getD i (0, 0) := by
  rw [List.getD_eq_getElem?_getD, movPs, List.getElem?_map, List.getElem?_range hi]; rfl
def movW (u : Win) (dx dy : Int) : Win := ⟨u.kind, if u.kind ≠ 3 then addV u.x dx else u.x, if u.kind ≠ 3 then addV u.y dy else u.y, u.w, u.h, u.soft, movPs u.pts dx dy u.pts.length, u.out⟩
def movE (u : Win) (dx dy : Int) : Int := if winE u ≠ 0 then winE u else if plcB dx = false ∨ plcB dy = false then 3 else winE (movW u dx dy)
def zeroW : Win := ⟨0, 0, 0, 0, 0, 0, [], false⟩
def movR (u : Win) (dx dy : Int) : Win := if movE u dx dy = 0 then movW u dx dy else zeroW
theorem mov_1 {u : Win} {dx dy : Int} (h : winE u ≠ 0) : movE u dx dy = winE u ∧ movR u dx dy = zeroW := by
  have e : movE u dx dy = winE u := if_pos h
  exact ⟨e, by unfold movR; rw [e, if_neg h]⟩
theorem mov_2 {u : Win} {dx dy : Int} (h : winE u = 0) (h1 : plcB dx = false ∨ plcB dy = false) : movE u dx dy = 3 ∧ movR u dx dy = zeroW := by
  have e : movE u dx dy = 3 := by unfold movE; rw [if_neg (by simpa using h), if_pos h1]
  exact ⟨e, by unfold movR; rw [e]; rfl⟩
theorem mov_3 {u : Win} {dx dy : Int} (h : winE u = 0) (h1 : plcB dx = true) (h2 : plcB dy = true) : movE u dx dy = winE (movW u dx dy) := by unfold movE; rw [if_neg (by simpa using h), if_neg (by rw [h1, h2]; simp)]
theorem mov_4 {u : Win} {dx dy : Int} (h : winE u = 0) (h1 : plcB dx = true) (h2 : plcB dy = true) (h3 : winE (movW u dx dy) ≠ 0) : movE u dx dy = winE (movW u dx dy) ∧ movR u dx dy = zeroW := by
  have e := mov_3 h h1 h2
  exact ⟨e, by unfold movR; rw [e, if_neg h3]⟩
theorem mov_5 {u : Win} {dx dy : Int} (h : winE u = 0) (h1 : plcB dx = true) (h2 : plcB dy = true) (h3 : winE (movW u dx dy) = 0) : movE u dx dy = 0 ∧ movR u dx dy = movW u dx dy := by
  have e := mov_3 h h1 h2
  exact ⟨e.trans h3, by unfold movR; rw [e, if_pos h3]⟩
/-- what a right window is -/
theorem winE_ok {u : Win} (h : winE u = 0) : (u.kind = 1 ∨ u.kind = 2 ∨ u.kind = 3) ∧ numW u = true ∧ outW u = false ∧ ¬ badP u ∧ anyF u.pts = false := by
  unfold winE at h
  split at h
  · omega
  · split at h
    · omega
    · split at h
      · omega
      · split at h
        · omega
        · split at h
          · omega
          · rename_i q1 q2 q3 q4 q5
            exact ⟨by omega, by simpa using q2, by simpa using q3, q4, by simpa using q5⟩
theorem winE_pts {u : Win} (h : winE u = 0) : u.pts.length ≤ 32 ∧ (u.kind ≠ 3 → u.pts = []) ∧ (u.kind = 3 → 3 ≤ u.pts.length) := by
  obtain ⟨h1, _, _, h2, _⟩ := winE_ok h
  unfold badP at h2
  refine ⟨by omega, fun h => ?_, fun h => by omega⟩
  exact List.eq_nil_of_length_eq_zero (by omega)
theorem winE_xy {u : Win} (h : winE u = 0) : numB u.x = true ∧ outF u.x 3380609024 1233125376 = false ∧ numB u.y = true ∧ outF u.y 3380609024 1233125376 = false := by
  obtain ⟨_, h1, h2, _⟩ := winE_ok h
  obtain ⟨n1, n2, _⟩ := numW_all h1
  unfold outW at h2
  simp only [Bool.or_eq_false_iff] at h2
  exact ⟨n1, h2.1.1.1.1, n2, h2.1.1.1.2⟩
theorem winE_place {u : Win} (h : winE u = 0) {i : Nat} (hi : i < u.pts.length) : -1048576 ≤ (u.pts.getD i (0, 0)).1 ∧ (u.pts.getD i (0, 0)).1 ≤ 1048576 ∧ -1048576 ≤ (u.pts.getD i (0, 0)).2 ∧ (u.pts.getD i (0, 0)).2 ≤ 1048576 := by
  obtain ⟨_, _, _, _, h1⟩ := winE_ok h
  unfold anyF at h1
  rw [List.any_eq_false] at h1
  have h2 := h1 (u.pts.getD i (0, 0)) (by rw [List.getD_eq_getElem?_getD, List.getElem?_eq_getElem hi]; exact List.getElem_mem _)
  generalize u.pts.getD i (0, 0) = p at h2 ⊢
  unfold farP plcB at h2
  simp at h2
  omega
theorem plcB_T {n : Int} (h : plcB n = true) : -1048576 ≤ n ∧ n ≤ 1048576 := by unfold plcB at h; simpa using h
end Go.Proofs.Ytapcgokcfmklbaa

namespace Go.Proofs.Ytapcgokcfmklbaa
open Go Go.Proofs Go.RowKit

theorem ok86 : callOK Try.prog 86 = true := by kernel_rfl
theorem ok121 : callOK Try.prog 121 = true := by kernel_rfl
theorem ok124 : callOK Try.prog 124 = true := by kernel_rfl

set_option maxRecDepth 100000 in
theorem farP2 (p : Int × Int) (W : World) : Fn_ Try.prog 124 #[.agg #[iv p.1, iv p.2]] W (fun v H => v = .bool (farP p) ∧ H = []) := by
  refine Fn_.intro Try.func124 rfl rfl (by rfl) ?_
  refine CS.seq ?_
  refine CS.region ?_
  refine RS.box rfl (by rfl) (by rfl) ?_
  intro g1
  refine RS.q rfl (QO.assign) ?_
  refine RS.nil ?_
  refine thenC_n ?_
  refine CS.seq ?_
  refine CS.region ?_
  refine RS.q rfl (QO.fieldAddr fo31_0 (by rfl)) ?_
  refine RS.q rfl (QO.load ty3 (by rfl) (by repeat (first | exact List.Mem.head _ | refine List.Mem.tail _ ?_)) (by rfl)) ?_
  refine RS.call rfl (by rfl) ok86 (by rfl) (fun w ho => far1 p.1 _) ?_
  rintro _ _ ⟨rfl, rfl⟩
  refine RS.q rfl (QO.move) ?_
  refine RS.split (dj := 6) (by rfl) (fun hb0 => ?_) (fun hb0 => ?_)
  · refine RS.off (dj := 6) rfl (.inl (congrArg Value.bool hb0)) (fun _ => rfl) rfl ?_
    refine RS.off (dj := 6) rfl (.inl (congrArg Value.bool hb0)) (fun _ => rfl) rfl ?_
    refine RS.off (dj := 6) rfl (.inl (congrArg Value.bool hb0)) (fun _ => rfl) rfl ?_
    refine RS.q rfl (QO.pickT (by rfl) hb0 (by rfl)) ?_
    refine RS.q rfl (QO.assign) ?_
    refine RS.nil ?_
    refine thenC_n ?_
    refine CS.ret ?_
    refine retQ.mk (H' := []) (.inr rfl) (RVs.tmp (by rfl) RVs.nil) (List.nil_sublist _) ?_
    refine ⟨congrArg Value.bool ?_, rfl⟩
    unfold farP
    simp_all
  refine RS.on (dj := 6) rfl (congrArg Value.bool hb0) ?_
  refine RS.q rfl (QO.fieldAddr fo31_1 (by rfl)) ?_
  refine RS.on (dj := 6) rfl (congrArg Value.bool hb0) ?_
  refine RS.q rfl (QO.load ty3 (by rfl) (by repeat (first | exact List.Mem.head _ | refine List.Mem.tail _ ?_)) (by rfl)) ?_
  refine RS.on (dj := 6) rfl (congrArg Value.bool hb0) ?_
  refine RS.call rfl (by rfl) ok86 (by rfl) (fun w ho => far1 p.2 _) ?_
  rintro _ _ ⟨rfl, rfl⟩
  refine RS.q rfl (QO.pickF (by rfl) hb0 (by rfl)) ?_
  refine RS.q rfl (QO.assign) ?_
  refine RS.nil ?_
  refine thenC_n ?_
  refine CS.ret ?_
  refine retQ.mk (H' := []) (.inr rfl) (RVs.tmp (by rfl) RVs.nil) (List.nil_sublist _) ?_
  refine ⟨congrArg Value.bool ?_, rfl⟩
  unfold farP
  simp_all

set_option maxRecDepth 100000 in
theorem indexP2 (A : Option Addr) (c : Nat) (l : List (Int × Int)) (W : World) (hA : PS W A l) (hm : l.length ≤ maxLen) : Fn_ Try.prog 150 #[.slice A l.length c, .func (.func 124) #[] #[]] W (fun v H => ∃ q : Int, v = iv q ∧ decide (0 ≤ q) = anyF l ∧ H = []) := by
  unfold maxLen at hm
  refine Fn_.intro Try.func150 rfl rfl (by rfl) ?_
  refine CS.seq ?_
  refine CS.region ?_
  refine RS.q rfl (QO.assign) ?_
  refine RS.nil ?_
  refine thenC_n ?_
  refine CS.seq ?_
  refine CS.seq ?_
  refine CS.region ?_
  refine RS.q rfl (QO.move) ?_
  refine RS.q rfl (QO.lenS Try.underlying59 (by rfl)) ?_
  refine RS.q rfl (QO.move) ?_
  refine RS.nil ?_
  refine thenC_n ?_
  refine CS.block ?_
  refine CS.loop (X := Nat) (4 :: 5 :: 8 :: 9 :: 10 :: 11 :: 12 :: 13 :: 14 :: 15 :: 16 :: 17 :: 18 :: []) (fun k => [(8, iv (k : Int))]) (fun k => []) (fun k => k ≤ l.length ∧ ∀ i, i < k → farP (l.getD i (0, 0)) = false) (fun k => l.length - k) 0 ⟨Nat.zero_le _, fun i h => absurd h (Nat.not_lt_zero _)⟩ ?_ ?_ ?_
  · exact (by repeat (first | exact kn_nil | refine kn_cons (by rfl) ?_))
  · exact (by repeat (first | exact List.Sublist.refl _ | exact List.nil_sublist _ | refine List.Sublist.cons_cons _ ?_ | refine List.Sublist.cons _ ?_ | exact Sbp.refl | exact Sbp.nil | refine Sbp.cons (by repeat (first | exact Rem.head | apply Rem.tail)) ?_ | exact Sbp.app | refine Sbp.skip ?_))
  intro k gj2 hz
  obtain ⟨hk, hno⟩ := hz
  refine CS.seq ?_
  refine CS.region ?_
  refine RS.q rfl (QO.lss (by rfl) (by rfl)) ?_
  refine RS.nil ?_
  refine thenC_n ?_
  refine CS.seq ?_
  refine CS.cond (by rfl) (fun hb0 => ?_) (fun hb0 => ?_)
  · have hb0p := of_decide_eq_true hb0
    refine CS.skip ?_
    refine thenC_n ?_
    refine CS.seq ?_
    refine CS.block ?_
    refine CS.seq ?_
    refine CS.region ?_
    refine RS.q rfl (QO.move) ?_
    refine RS.q rfl (QO.assign) ?_
    refine RS.nil ?_
    refine thenC_n ?_
    refine CS.seq ?_
    refine CS.region ?_
    refine RS.q rfl (QO.move) ?_
    have hx1 := hA (by omega)
    obtain ⟨bA, oA, e1, hc1⟩ := hx1
    subst e1
    have hd1 := hc1 k (by omega)
    refine RS.q rfl (QO.move) ?_
    refine RS.q rfl (QO.move) ?_
    refine RS.q rfl (QO.idx Try.underlying59 ty31 (by rfl) (by rfl) (by omega) (by omega)) ?_
    refine RS.q rfl (QO.loadOA ty31 (vs := [iv (l.getD k (0, 0)).1, iv (l.getD k (0, 0)).2]) (by rfl) hd1 (by rfl)) ?_
    refine RS.call rfl (by rfl) ok124 (by rfl) (fun w ho => farP2 (l.getD k (0, 0)) _) ?_
    rintro _ _ ⟨rfl, rfl⟩
    refine RS.nil ?_
    refine thenC_n ?_
    refine CS.cond (by rfl) (fun hb1 => ?_) (fun hb1 => ?_)
    · refine CS.seq ?_
      refine CS.region ?_
      refine RS.q rfl (QO.move) ?_
      refine RS.q rfl (QO.assign) ?_
      refine RS.nil ?_
      refine thenC_n ?_
      refine CS.ret ?_
      refine blockC_r ?_
      refine thenC_r ?_
      refine loopQ_r ?_
      refine blockC_r ?_
      refine thenC_r ?_
      refine retQ.mk (H' := []) (.inr rfl) (RVs.tmp (by rfl) RVs.nil) (List.nil_sublist _) ?_
      exact ⟨_, rfl, (decide_eq_true (by omega)).trans (anyF_T (k := k) (by omega) (by assumption)).symm, rfl⟩
    refine CS.skip ?_
    refine blockC_n ?_
    refine thenC_n ?_
    refine CS.region ?_
    refine RS.q rfl (QO.add (by rfl) (by rfl) (by omega) (by omega)) ?_
    refine RS.q rfl (QO.move) ?_
    refine RS.nil ?_
    refine loopQ_n (by intro t ht; repeat (first | with_reducible exact rfl | exact frame_puts ht (frame_mix ht) _ rfl | (refine frame_put rfl ht ?_) | (refine frame_puts ht ?_ _ rfl) | exact frame_mix ht | (refine frame_mix2 rfl ht ?_) | exact rfl)) ?_
    exact ⟨k + 1, ⟨by omega, fun i hi => by
        by_cases e : i = k
        · subst e; assumption
        · exact hno i (by omega)⟩, by omega, (by repeat (first | exact kn_nil | refine kn_cons (by rfl) ?_)), (by repeat (first | exact List.Sublist.refl _ | exact List.nil_sublist _ | refine List.Sublist.cons_cons _ ?_ | refine List.Sublist.cons _ ?_ | exact Sbp.refl | exact Sbp.nil | refine Sbp.cons (by repeat (first | exact Rem.head | apply Rem.tail)) ?_ | exact Sbp.app | refine Sbp.skip ?_))⟩
  have hb0p := of_decide_eq_false hb0
  refine CS.exit ?_
  refine thenC_x ?_
  refine loopQ_x ?_
  refine blockC_x ?_
  refine thenC_n ?_
  refine CS.seq ?_
  refine CS.region ?_
  refine RS.q rfl (QO.assign) ?_
  refine RS.nil ?_
  refine thenC_n ?_
  refine CS.ret ?_
  refine retQ.mk (H' := []) (.inr rfl) (RVs.tmp (by rfl) RVs.nil) (List.nil_sublist _) ?_
  exact ⟨_, rfl, (decide_eq_false (by omega)).trans (anyF_F (fun i hi => hno i (by omega))).symm, rfl⟩

set_option maxRecDepth 100000 in
theorem containsP2 (A : Option Addr) (c : Nat) (l : List (Int × Int)) (W : World) (hA : PS W A l) (hm : l.length ≤ maxLen) : Fn_ Try.prog 123 #[.slice A l.length c, .func (.func 124) #[] #[]] W (fun v H => v = .bool (anyF l) ∧ H = []) := by
  refine Fn_.intro Try.func123 rfl rfl (by rfl) ?_
  refine CS.seq ?_
  refine CS.region ?_
  refine RS.q rfl (QO.assign) ?_
  refine RS.nil ?_
  refine thenC_n ?_
  refine CS.seq ?_
  refine CS.region ?_
  refine RS.q rfl (QO.move) ?_
  refine RS.q rfl (QO.move) ?_
  refine RS.call rfl (by rfl) ok150 (by rfl) (fun w ho => indexP2 A c l _ (hA.own ho) hm) ?_
  rintro _ _ ⟨q, rfl, hq, rfl⟩
  refine RS.q rfl (QO.geq (by rfl) (by rfl)) ?_
  refine RS.q rfl (QO.assign) ?_
  refine RS.nil ?_
  refine thenC_n ?_
  refine CS.ret ?_
  refine retQ.mk (H' := []) (.inr rfl) (RVs.tmp (by rfl) RVs.nil) (List.nil_sublist _) ?_
  exact ⟨congrArg Value.bool hq, rfl⟩

theorem inWp (q : Nat) (W : World) (h : numB q = true) : Fn_ Try.prog 121 #[flt q, iv (-1048576), iv 1048576] W (fun v H => v = .bool (!outF q 3380609024 1233125376) ∧ H = []) := by
  rw [← in_place h]; exact inW1 q (-1048576) 1048576 W
theorem inWs (q : Nat) (W : World) (h : numB q = true) : Fn_ Try.prog 121 #[flt q, iv 0, iv 1048576] W (fun v H => v = .bool (!outF q 0 1233125376) ∧ H = []) := by
  rw [← in_size h]; exact inW1 q 0 1048576 W
theorem inWo (q : Nat) (W : World) (h : numB q = true) : Fn_ Try.prog 121 #[flt q, iv 0, iv 4096] W (fun v H => v = .bool (!outF q 0 1166016512) ∧ H = []) := by
  rw [← in_soft h]; exact inW1 q 0 4096 W
theorem nn_T {x : Bool} (h : (!x) = false) : x = true := by cases x <;> simp_all
theorem nn_F {x : Bool} (h : (!x) = true) : x = false := by cases x <;> simp_all

set_option maxHeartbeats 4000000 in
set_option maxRecDepth 100000 in
theorem windowError (u : Win) (A : Option Addr) (c : Nat) (W : World) (hA : PS W A u.pts) (hm : u.pts.length ≤ maxLen) : Fn_ Try.prog 69 #[.agg #[iv u.kind, flt u.x, flt u.y, flt u.w, flt u.h, flt u.soft, .slice A u.pts.length c, .bool u.out]] W (fun v H => v = iv (winE u) ∧ H = []) := by
  refine Fn_.intro Try.func69 rfl rfl (by rfl) ?_
  refine CS.seq ?_
  refine CS.region ?_
  refine RS.box rfl (by rfl) (by rfl) ?_
  intro g1
  refine RS.q rfl (QO.assign) ?_
  refine RS.nil ?_
  refine thenC_n ?_
  refine CS.seq ?_
  refine CS.region ?_
  refine RS.q rfl (QO.assign) ?_
  refine RS.nil ?_
  refine thenC_n ?_
  refine CS.seq ?_
  by_cases hsp2 : u.kind = 3
  · refine CS.region ?_
    refine RS.q rfl (QO.fieldAddr fo61_0 (by rfl)) ?_
    refine RS.q rfl (QO.load ty3 (by rfl) (by repeat (first | exact List.Mem.head _ | refine List.Mem.tail _ ?_)) (by rfl)) ?_
    refine RS.q rfl (QO.eql (by rfl) (by rfl)) ?_
    refine RS.q rfl (QO.assign) ?_
    refine RS.nil ?_
    refine thenC_n ?_
    refine CS.seq ?_
    refine CS.block ?_
    refine CS.seq ?_
    refine CS.region ?_
    refine RS.q rfl (QO.fieldAddr fo61_0 (by rfl)) ?_
    refine RS.q rfl (QO.load ty3 (by rfl) (by repeat (first | exact List.Mem.head _ | refine List.Mem.tail _ ?_)) (by rfl)) ?_
    refine RS.q rfl (QO.lss (by rfl) (by rfl)) ?_
    refine RS.q rfl (QO.move) ?_
    refine RS.split (dj := 12) (by rfl) (fun hb0 => ?_) (fun hb0 => ?_)
    · have hb0p := of_decide_eq_true hb0
      refine RS.off (dj := 12) rfl (.inl (congrArg Value.bool hb0)) (fun _ => rfl) rfl ?_
      refine RS.off (dj := 12) rfl (.inl (congrArg Value.bool hb0)) (fun _ => rfl) rfl ?_
      refine RS.off (dj := 12) rfl (.inl (congrArg Value.bool hb0)) (fun _ => rfl) rfl ?_
      refine RS.q rfl (QO.pickT (by rfl) hb0 (by rfl)) ?_
      refine RS.q rfl (QO.assign) ?_
      refine RS.nil ?_
      refine thenC_n ?_
      refine CS.condT (by rfl) rfl ?_
      refine CS.seq ?_
      refine CS.region ?_
      refine RS.q rfl (QO.assign) ?_
      refine RS.nil ?_
      refine thenC_n ?_
      refine CS.ret ?_
      refine blockC_r ?_
      refine thenC_r ?_
      refine retQ.mk (H' := []) (.inr rfl) (RVs.tmp (by rfl) RVs.nil) (List.nil_sublist _) ?_
      exact ⟨congrArg iv (winE_1 (by omega)), rfl⟩
    have hb0p := of_decide_eq_false hb0
    refine RS.on (dj := 12) rfl (congrArg Value.bool hb0) ?_
    refine RS.q rfl (QO.fieldAddr fo61_0 (by rfl)) ?_
    refine RS.on (dj := 12) rfl (congrArg Value.bool hb0) ?_
    refine RS.q rfl (QO.load ty3 (by rfl) (by repeat (first | exact List.Mem.head _ | refine List.Mem.tail _ ?_)) (by rfl)) ?_
    refine RS.on (dj := 12) rfl (congrArg Value.bool hb0) ?_
    refine RS.q rfl (QO.gtr (by rfl) (by rfl)) ?_
    refine RS.q rfl (QO.pickF (by rfl) hb0 (by rfl)) ?_
    refine RS.q rfl (QO.assign) ?_
    refine RS.nil ?_
    refine thenC_n ?_
    refine CS.cond (by rfl) (fun hb1 => ?_) (fun hb1 => ?_)
    · have hb1p := of_decide_eq_true hb1
      refine CS.seq ?_
      refine CS.region ?_
      refine RS.q rfl (QO.assign) ?_
      refine RS.nil ?_
      refine thenC_n ?_
      refine CS.ret ?_
      refine blockC_r ?_
      refine thenC_r ?_
      refine retQ.mk (H' := []) (.inr rfl) (RVs.tmp (by rfl) RVs.nil) (List.nil_sublist _) ?_
      exact ⟨congrArg iv (winE_1 (by omega)), rfl⟩
    have hb1p := of_decide_eq_false hb1
    refine CS.seq ?_
    refine CS.region ?_
    refine RS.q rfl (QO.fieldAddr fo61_1 (by rfl)) ?_
    refine RS.q rfl (QO.load ty29 (by rfl) (by repeat (first | exact List.Mem.head _ | refine List.Mem.tail _ ?_)) (by rfl)) ?_
    refine RS.q rfl (QO.fieldAddr fo61_2 (by rfl)) ?_
    refine RS.q rfl (QO.load ty29 (by rfl) (by repeat (first | exact List.Mem.head _ | refine List.Mem.tail _ ?_)) (by rfl)) ?_
    refine RS.q rfl (QO.fieldAddr fo61_3 (by rfl)) ?_
    refine RS.q rfl (QO.load ty29 (by rfl) (by repeat (first | exact List.Mem.head _ | refine List.Mem.tail _ ?_)) (by rfl)) ?_
    refine RS.q rfl (QO.fieldAddr fo61_4 (by rfl)) ?_
    refine RS.q rfl (QO.load ty29 (by rfl) (by repeat (first | exact List.Mem.head _ | refine List.Mem.tail _ ?_)) (by rfl)) ?_
    refine RS.q rfl (QO.fieldAddr fo61_5 (by rfl)) ?_
    refine RS.q rfl (QO.load ty29 (by rfl) (by repeat (first | exact List.Mem.head _ | refine List.Mem.tail _ ?_)) (by rfl)) ?_
    refine RS.buildSlice rfl Try.underlying24 ty29 (by decide) (by decide) (by rfl) (by rfl) ?_
    intro g28
    refine RS.call rfl (by rfl) ok122 (by rfl) (fun w ho => numbers (some ⟨g28, 0, none⟩) 5 5 [u.x, u.y, u.w, u.h, u.soft] _ rfl (FS.blk' (xs := [u.x, u.y, u.w, u.h, u.soft]) ho (by repeat (first | exact List.Mem.head _ | refine List.Mem.tail _ ?_))) (by decide)) ?_
    rintro _ _ ⟨rfl, rfl⟩
    refine RS.q rfl (QO.not (by rfl)) ?_
    refine RS.q rfl (QO.assign) ?_
    refine RS.nil ?_
    refine thenC_n ?_
    refine CS.cond (by rfl) (fun hb2 => ?_) (fun hb2 => ?_)
    · have hb2p := Eq.mp (Bool.not_eq_true' _) hb2
      refine CS.seq ?_
      refine CS.region ?_
      refine RS.q rfl (QO.assign) ?_
      refine RS.nil ?_
      refine thenC_n ?_
      refine CS.ret ?_
      refine blockC_r ?_
      refine thenC_r ?_
      refine retQ.mk (H' := []) (.inr rfl) (RVs.tmp (by rfl) RVs.nil) (List.nil_sublist _) ?_
      exact ⟨congrArg iv (winE_2 (by omega) (by unfold numW; assumption)), rfl⟩
    have hb2p := Eq.mp (Bool.not_eq_false' _) hb2
    refine CS.seq ?_
    refine CS.seq ?_
    refine CS.region ?_
    refine RS.q rfl (QO.move) ?_
    refine RS.q rfl (QO.fieldAddr fo61_1 (by rfl)) ?_
    refine RS.q rfl (QO.load ty29 (by rfl) (by repeat (first | exact List.Mem.head _ | refine List.Mem.tail _ ?_)) (by rfl)) ?_
    refine RS.call rfl (by rfl) ok121 (by rfl) (fun w ho => inWp u.x _ (numW_all (u := u) (by unfold numW; assumption)).1) ?_
    rintro _ _ ⟨rfl, rfl⟩
    refine RS.q rfl (QO.not (by rfl)) ?_
    refine RS.q rfl (QO.assign) ?_
    refine RS.nil ?_
    refine thenC_n ?_
    refine CS.cond (by rfl) (fun hb3 => ?_) (fun hb3 => ?_)
    · have hb3p := Eq.mp (Bool.not_eq_true' _) hb3
      refine CS.skip ?_
      refine thenC_n ?_
      refine CS.condT (by rfl) hb3 ?_
      refine CS.seq ?_
      refine CS.region ?_
      refine RS.q rfl (QO.assign) ?_
      refine RS.nil ?_
      refine thenC_n ?_
      refine CS.ret ?_
      refine blockC_r ?_
      refine thenC_r ?_
      refine retQ.mk (H' := []) (.inr rfl) (RVs.tmp (by rfl) RVs.nil) (List.nil_sublist _) ?_
      exact ⟨congrArg iv (winE_3 (by omega) (by unfold numW; assumption) (outW_1 (nn_T (by assumption)))), rfl⟩
    have hb3p := Eq.mp (Bool.not_eq_false' _) hb3
    refine CS.seq ?_
    refine CS.region ?_
    refine RS.q rfl (QO.move) ?_
    refine RS.q rfl (QO.fieldAddr fo61_2 (by rfl)) ?_
    refine RS.q rfl (QO.load ty29 (by rfl) (by repeat (first | exact List.Mem.head _ | refine List.Mem.tail _ ?_)) (by rfl)) ?_
    refine RS.call rfl (by rfl) ok121 (by rfl) (fun w ho => inWp u.y _ (numW_all (u := u) (by unfold numW; assumption)).2.1) ?_
    rintro _ _ ⟨rfl, rfl⟩
    refine RS.q rfl (QO.not (by rfl)) ?_
    refine RS.q rfl (QO.assign) ?_
    refine RS.nil ?_
    refine thenC_n ?_
    refine CS.cond (by rfl) (fun hb4 => ?_) (fun hb4 => ?_)
    · have hb4p := Eq.mp (Bool.not_eq_true' _) hb4
      refine CS.skip ?_
      refine thenC_n ?_
      refine CS.condT (by rfl) hb4 ?_
      refine CS.seq ?_
      refine CS.region ?_
      refine RS.q rfl (QO.assign) ?_
      refine RS.nil ?_
      refine thenC_n ?_
      refine CS.ret ?_
      refine blockC_r ?_
      refine thenC_r ?_
      refine retQ.mk (H' := []) (.inr rfl) (RVs.tmp (by rfl) RVs.nil) (List.nil_sublist _) ?_
      exact ⟨congrArg iv (winE_3 (by omega) (by unfold numW; assumption) (outW_2 (nn_T (by assumption)))), rfl⟩
    have hb4p := Eq.mp (Bool.not_eq_false' _) hb4
    refine CS.seq ?_
    refine CS.region ?_
    refine RS.q rfl (QO.move) ?_
    refine RS.q rfl (QO.fieldAddr fo61_3 (by rfl)) ?_
    refine RS.q rfl (QO.load ty29 (by rfl) (by repeat (first | exact List.Mem.head _ | refine List.Mem.tail _ ?_)) (by rfl)) ?_
    refine RS.call rfl (by rfl) ok121 (by rfl) (fun w ho => inWs u.w _ (numW_all (u := u) (by unfold numW; assumption)).2.2.1) ?_
    rintro _ _ ⟨rfl, rfl⟩
    refine RS.q rfl (QO.not (by rfl)) ?_
    refine RS.q rfl (QO.assign) ?_
    refine RS.nil ?_
    refine thenC_n ?_
    refine CS.cond (by rfl) (fun hb5 => ?_) (fun hb5 => ?_)
    · have hb5p := Eq.mp (Bool.not_eq_true' _) hb5
      refine CS.skip ?_
      refine thenC_n ?_
      refine CS.condT (by rfl) hb5 ?_
      refine CS.seq ?_
      refine CS.region ?_
      refine RS.q rfl (QO.assign) ?_
      refine RS.nil ?_
      refine thenC_n ?_
      refine CS.ret ?_
      refine blockC_r ?_
      refine thenC_r ?_
      refine retQ.mk (H' := []) (.inr rfl) (RVs.tmp (by rfl) RVs.nil) (List.nil_sublist _) ?_
      exact ⟨congrArg iv (winE_3 (by omega) (by unfold numW; assumption) (outW_3 (nn_T (by assumption)))), rfl⟩
    have hb5p := Eq.mp (Bool.not_eq_false' _) hb5
    refine CS.seq ?_
    refine CS.region ?_
    refine RS.q rfl (QO.move) ?_
    refine RS.q rfl (QO.fieldAddr fo61_4 (by rfl)) ?_
    refine RS.q rfl (QO.load ty29 (by rfl) (by repeat (first | exact List.Mem.head _ | refine List.Mem.tail _ ?_)) (by rfl)) ?_
    refine RS.call rfl (by rfl) ok121 (by rfl) (fun w ho => inWs u.h _ (numW_all (u := u) (by unfold numW; assumption)).2.2.2.1) ?_
    rintro _ _ ⟨rfl, rfl⟩
    refine RS.q rfl (QO.not (by rfl)) ?_
    refine RS.q rfl (QO.assign) ?_
    refine RS.nil ?_
    refine thenC_n ?_
    refine CS.cond (by rfl) (fun hb6 => ?_) (fun hb6 => ?_)
    · have hb6p := Eq.mp (Bool.not_eq_true' _) hb6
      refine CS.skip ?_
      refine thenC_n ?_
      refine CS.condT (by rfl) hb6 ?_
      refine CS.seq ?_
      refine CS.region ?_
      refine RS.q rfl (QO.assign) ?_
      refine RS.nil ?_
      refine thenC_n ?_
      refine CS.ret ?_
      refine blockC_r ?_
      refine thenC_r ?_
      refine retQ.mk (H' := []) (.inr rfl) (RVs.tmp (by rfl) RVs.nil) (List.nil_sublist _) ?_
      exact ⟨congrArg iv (winE_3 (by omega) (by unfold numW; assumption) (outW_4 (nn_T (by assumption)))), rfl⟩
    have hb6p := Eq.mp (Bool.not_eq_false' _) hb6
    refine CS.region ?_
    refine RS.q rfl (QO.move) ?_
    refine RS.q rfl (QO.fieldAddr fo61_5 (by rfl)) ?_
    refine RS.q rfl (QO.load ty29 (by rfl) (by repeat (first | exact List.Mem.head _ | refine List.Mem.tail _ ?_)) (by rfl)) ?_
    refine RS.call rfl (by rfl) ok121 (by rfl) (fun w ho => inWo u.soft _ (numW_all (u := u) (by unfold numW; assumption)).2.2.2.2) ?_
    rintro _ _ ⟨rfl, rfl⟩
    refine RS.q rfl (QO.not (by rfl)) ?_
    refine RS.q rfl (QO.assign) ?_
    refine RS.nil ?_
    refine thenC_n ?_
    refine CS.cond (by rfl) (fun hb7 => ?_) (fun hb7 => ?_)
    · have hb7p := Eq.mp (Bool.not_eq_true' _) hb7
      refine CS.seq ?_
      refine CS.region ?_
      refine RS.q rfl (QO.assign) ?_
      refine RS.nil ?_
      refine thenC_n ?_
      refine CS.ret ?_
      refine blockC_r ?_
      refine thenC_r ?_
      refine retQ.mk (H' := []) (.inr rfl) (RVs.tmp (by rfl) RVs.nil) (List.nil_sublist _) ?_
      exact ⟨congrArg iv (winE_3 (by omega) (by unfold numW; assumption) (outW_5 (nn_T (by assumption)))), rfl⟩
    have hb7p := Eq.mp (Bool.not_eq_false' _) hb7
    refine CS.seq ?_
    refine CS.seq ?_
    refine CS.region ?_
    refine RS.q rfl (QO.move) ?_
    refine RS.q rfl (QO.move) ?_
    refine RS.on (dj := 59) rfl (congrArg Value.bool (beq_iff_eq.2 hsp2)) ?_
    refine RS.q rfl (QO.fieldAddr fo61_6 (by rfl)) ?_
    refine RS.on (dj := 59) rfl (congrArg Value.bool (beq_iff_eq.2 hsp2)) ?_
    refine RS.q rfl (QO.load ty59 (by rfl) (by repeat (first | exact List.Mem.head _ | refine List.Mem.tail _ ?_)) (by rfl)) ?_
    refine RS.on (dj := 59) rfl (congrArg Value.bool (beq_iff_eq.2 hsp2)) ?_
    refine RS.q rfl (QO.lenS Try.underlying59 (by rfl)) ?_
    refine RS.on (dj := 59) rfl (congrArg Value.bool (beq_iff_eq.2 hsp2)) ?_
    refine RS.q rfl (QO.lss (by rfl) (by rfl)) ?_
    refine RS.on (dj := 59) rfl (congrArg Value.bool (beq_iff_eq.2 hsp2)) ?_
    refine RS.q rfl (QO.move) ?_
    refine RS.split (dj := 64) (by rfl) (fun hb8 => ?_) (fun hb8 => ?_)
    · have hb8p := of_decide_eq_true hb8
      refine RS.off (dj := 64) rfl (.inl (congrArg Value.bool hb8)) (fun _ => rfl) rfl ?_
      refine RS.off (dj := 64) rfl (.inl (congrArg Value.bool hb8)) (fun _ => rfl) rfl ?_
      refine RS.off (dj := 64) rfl (.inl (congrArg Value.bool hb8)) (fun _ => rfl) rfl ?_
      refine RS.off (dj := 64) rfl (.inl (congrArg Value.bool hb8)) (fun _ => rfl) rfl ?_
      refine RS.on (dj := 59) rfl (congrArg Value.bool (beq_iff_eq.2 hsp2)) ?_
      refine RS.q rfl (QO.pickT (by rfl) hb8 (by rfl)) ?_
      refine RS.q rfl (QO.pickT (by rfl) (beq_iff_eq.2 hsp2) (by rfl)) ?_
      refine RS.q rfl (QO.assign) ?_
      refine RS.nil ?_
      refine thenC_n ?_
      refine CS.condT (by rfl) rfl ?_
      refine CS.skip ?_
      refine thenC_n ?_
      refine CS.condT (by rfl) rfl ?_
      refine CS.seq ?_
      refine CS.region ?_
      refine RS.q rfl (QO.assign) ?_
      refine RS.nil ?_
      refine thenC_n ?_
      refine CS.ret ?_
      refine blockC_r ?_
      refine thenC_r ?_
      refine retQ.mk (H' := []) (.inr rfl) (RVs.tmp (by rfl) RVs.nil) (List.nil_sublist _) ?_
      exact ⟨congrArg iv (winE_4 (by omega) (by unfold numW; assumption) (outW_f (nn_F (by assumption)) (nn_F (by assumption)) (nn_F (by assumption)) (nn_F (by assumption)) (nn_F (by assumption))) (by unfold badP; omega)), rfl⟩
    have hb8p := of_decide_eq_false hb8
    refine RS.on (dj := 64) rfl (congrArg Value.bool hb8) ?_
    refine RS.q rfl (QO.fieldAddr fo61_6 (by rfl)) ?_
    refine RS.on (dj := 64) rfl (congrArg Value.bool hb8) ?_
    refine RS.q rfl (QO.load ty59 (by rfl) (by repeat (first | exact List.Mem.head _ | refine List.Mem.tail _ ?_)) (by rfl)) ?_
    refine RS.on (dj := 64) rfl (congrArg Value.bool hb8) ?_
    refine RS.q rfl (QO.lenS Try.underlying59 (by rfl)) ?_
    refine RS.on (dj := 64) rfl (congrArg Value.bool hb8) ?_
    refine RS.q rfl (QO.gtr (by rfl) (by rfl)) ?_
    refine RS.on (dj := 59) rfl (congrArg Value.bool (beq_iff_eq.2 hsp2)) ?_
    refine RS.q rfl (QO.pickF (by rfl) hb8 (by rfl)) ?_
    refine RS.q rfl (QO.pickT (by rfl) (beq_iff_eq.2 hsp2) (by rfl)) ?_
    refine RS.q rfl (QO.assign) ?_
    refine RS.nil ?_
    refine thenC_n ?_
    refine CS.cond (by rfl) (fun hb9 => ?_) (fun hb9 => ?_)
    · have hb9p := of_decide_eq_true hb9
      refine CS.skip ?_
      refine thenC_n ?_
      refine CS.condT (by rfl) hb9 ?_
      refine CS.seq ?_
      refine CS.region ?_
      refine RS.q rfl (QO.assign) ?_
      refine RS.nil ?_
      refine thenC_n ?_
      refine CS.ret ?_
      refine blockC_r ?_
      refine thenC_r ?_
      refine retQ.mk (H' := []) (.inr rfl) (RVs.tmp (by rfl) RVs.nil) (List.nil_sublist _) ?_
      exact ⟨congrArg iv (winE_4 (by omega) (by unfold numW; assumption) (outW_f (nn_F (by assumption)) (nn_F (by assumption)) (nn_F (by assumption)) (nn_F (by assumption)) (nn_F (by assumption))) (by unfold badP; omega)), rfl⟩
    have hb9p := of_decide_eq_false hb9
    refine CS.region ?_
    refine RS.q rfl (QO.move) ?_
    refine RS.q rfl (QO.not (by rfl)) ?_
    refine RS.q rfl (QO.move) ?_
    refine RS.off (dj := 73) rfl (.inl (congrArg Value.bool (by rw [(beq_iff_eq.2 hsp2)] <;> rfl))) (fun _ => rfl) rfl ?_
    refine RS.off (dj := 73) rfl (.inl (congrArg Value.bool (by rw [(beq_iff_eq.2 hsp2)] <;> rfl))) (fun _ => rfl) rfl ?_
    refine RS.off (dj := 73) rfl (.inl (congrArg Value.bool (by rw [(beq_iff_eq.2 hsp2)] <;> rfl))) (fun _ => rfl) rfl ?_
    refine RS.off (dj := 73) rfl (.inl (congrArg Value.bool (by rw [(beq_iff_eq.2 hsp2)] <;> rfl))) (fun _ => rfl) rfl ?_
    refine RS.q rfl (QO.pickF (by rfl) (by rw [(beq_iff_eq.2 hsp2)] <;> rfl) (by rfl)) ?_
    refine RS.q rfl (QO.assign) ?_
    refine RS.nil ?_
    refine thenC_n ?_
    refine CS.condF (by rfl) rfl ?_
    refine CS.seq ?_
    refine CS.region ?_
    refine RS.q rfl (QO.fieldAddr fo61_6 (by rfl)) ?_
    refine RS.q rfl (QO.load ty59 (by rfl) (by repeat (first | exact List.Mem.head _ | refine List.Mem.tail _ ?_)) (by rfl)) ?_
    refine RS.call rfl (by rfl) ok123 (by rfl) (fun w ho => containsP2 A c u.pts _ (hA.own ho) hm) ?_
    rintro _ _ ⟨rfl, rfl⟩
    refine RS.q rfl (QO.assign) ?_
    refine RS.nil ?_
    refine thenC_n ?_
    refine CS.cond (by rfl) (fun hb10 => ?_) (fun hb10 => ?_)
    · refine CS.seq ?_
      refine CS.region ?_
      refine RS.q rfl (QO.assign) ?_
      refine RS.nil ?_
      refine thenC_n ?_
      refine CS.ret ?_
      refine blockC_r ?_
      refine thenC_r ?_
      refine retQ.mk (H' := []) (.inr rfl) (RVs.tmp (by rfl) RVs.nil) (List.nil_sublist _) ?_
      exact ⟨congrArg iv (winE_5 (by omega) (by unfold numW; assumption) (outW_f (nn_F (by assumption)) (nn_F (by assumption)) (nn_F (by assumption)) (nn_F (by assumption)) (nn_F (by assumption))) (by unfold badP; omega) (by assumption)), rfl⟩
    refine CS.seq ?_
    refine CS.seq ?_
    refine CS.region ?_
    refine RS.q rfl (QO.move) ?_
    refine RS.q rfl (QO.move) ?_
    refine RS.on (dj := 85) rfl (congrArg Value.bool (beq_iff_eq.2 hsp2)) ?_
    refine RS.q rfl (QO.fieldAddr fo61_1 (by rfl)) ?_
    refine RS.on (dj := 85) rfl (congrArg Value.bool (beq_iff_eq.2 hsp2)) ?_
    refine RS.q rfl (QO.load ty29 (by rfl) (by repeat (first | exact List.Mem.head _ | refine List.Mem.tail _ ?_)) (by rfl)) ?_
    refine RS.on (dj := 85) rfl (congrArg Value.bool (beq_iff_eq.2 hsp2)) ?_
    refine RS.q rfl (QO.fcmp32 (by rfl) (by rfl) (by simp)) ?_
    refine RS.on (dj := 85) rfl (congrArg Value.bool (beq_iff_eq.2 hsp2)) ?_
    refine RS.q rfl (QO.move) ?_
    refine RS.split (dj := 89) (by rfl) (fun hb11 => ?_) (fun hb11 => ?_)
    · refine RS.off (dj := 89) rfl (.inl (congrArg Value.bool hb11)) (fun _ => rfl) rfl ?_
      refine RS.off (dj := 89) rfl (.inl (congrArg Value.bool hb11)) (fun _ => rfl) rfl ?_
      refine RS.off (dj := 89) rfl (.inl (congrArg Value.bool hb11)) (fun _ => rfl) rfl ?_
      refine RS.on (dj := 85) rfl (congrArg Value.bool (beq_iff_eq.2 hsp2)) ?_
      refine RS.q rfl (QO.pickT (by rfl) hb11 (by rfl)) ?_
      refine RS.on (dj := 85) rfl (congrArg Value.bool (beq_iff_eq.2 hsp2)) ?_
      refine RS.q rfl (QO.move) ?_
      refine RS.off (dj := 94) rfl (.inl (congrArg Value.bool rfl)) (fun _ => rfl) rfl ?_
      refine RS.off (dj := 94) rfl (.inl (congrArg Value.bool rfl)) (fun _ => rfl) rfl ?_
      refine RS.off (dj := 94) rfl (.inl (congrArg Value.bool rfl)) (fun _ => rfl) rfl ?_
      refine RS.on (dj := 85) rfl (congrArg Value.bool (beq_iff_eq.2 hsp2)) ?_
      refine RS.q rfl (QO.pickT (by rfl) rfl (by rfl)) ?_
      refine RS.on (dj := 85) rfl (congrArg Value.bool (beq_iff_eq.2 hsp2)) ?_
      refine RS.q rfl (QO.move) ?_
      refine RS.off (dj := 99) rfl (.inl (congrArg Value.bool rfl)) (fun _ => rfl) rfl ?_
      refine RS.off (dj := 99) rfl (.inl (congrArg Value.bool rfl)) (fun _ => rfl) rfl ?_
      refine RS.off (dj := 99) rfl (.inl (congrArg Value.bool rfl)) (fun _ => rfl) rfl ?_
      refine RS.on (dj := 85) rfl (congrArg Value.bool (beq_iff_eq.2 hsp2)) ?_
      refine RS.q rfl (QO.pickT (by rfl) rfl (by rfl)) ?_
      refine RS.on (dj := 85) rfl (congrArg Value.bool (beq_iff_eq.2 hsp2)) ?_
      refine RS.q rfl (QO.move) ?_
      refine RS.off (dj := 104) rfl (.inl (congrArg Value.bool rfl)) (fun _ => rfl) rfl ?_
      refine RS.off (dj := 104) rfl (.inl (congrArg Value.bool rfl)) (fun _ => rfl) rfl ?_
      refine RS.off (dj := 104) rfl (.inl (congrArg Value.bool rfl)) (fun _ => rfl) rfl ?_
      refine RS.on (dj := 85) rfl (congrArg Value.bool (beq_iff_eq.2 hsp2)) ?_
      refine RS.q rfl (QO.pickT (by rfl) rfl (by rfl)) ?_
      refine RS.q rfl (QO.pickT (by rfl) (beq_iff_eq.2 hsp2) (by rfl)) ?_
      refine RS.q rfl (QO.assign) ?_
      refine RS.nil ?_
      refine thenC_n ?_
      refine CS.condT (by rfl) rfl ?_
      refine CS.skip ?_
      refine thenC_n ?_
      refine CS.condT (by rfl) rfl ?_
      refine CS.seq ?_
      refine CS.region ?_
      refine RS.q rfl (QO.assign) ?_
      refine RS.nil ?_
      refine thenC_n ?_
      refine CS.ret ?_
      refine blockC_r ?_
      refine thenC_r ?_
      refine retQ.mk (H' := []) (.inr rfl) (RVs.tmp (by rfl) RVs.nil) (List.nil_sublist _) ?_
      exact ⟨congrArg iv (winE_6 (by omega) (by unfold numW; assumption) (outW_f (nn_F (by assumption)) (nn_F (by assumption)) (nn_F (by assumption)) (nn_F (by assumption)) (nn_F (by assumption))) (by unfold badP; omega) (by assumption) (cnf_1 (by assumption) (by assumption))), rfl⟩
    refine RS.on (dj := 89) rfl (congrArg Value.bool hb11) ?_
    refine RS.q rfl (QO.fieldAddr fo61_2 (by rfl)) ?_
    refine RS.on (dj := 89) rfl (congrArg Value.bool hb11) ?_
    refine RS.q rfl (QO.load ty29 (by rfl) (by repeat (first | exact List.Mem.head _ | refine List.Mem.tail _ ?_)) (by rfl)) ?_
    refine RS.on (dj := 89) rfl (congrArg Value.bool hb11) ?_
    refine RS.q rfl (QO.fcmp32 (by rfl) (by rfl) (by simp)) ?_
    refine RS.on (dj := 85) rfl (congrArg Value.bool (beq_iff_eq.2 hsp2)) ?_
    refine RS.q rfl (QO.pickF (by rfl) hb11 (by rfl)) ?_
    refine RS.on (dj := 85) rfl (congrArg Value.bool (beq_iff_eq.2 hsp2)) ?_
    refine RS.q rfl (QO.move) ?_
    refine RS.split (dj := 94) (by rfl) (fun hb12 => ?_) (fun hb12 => ?_)
    · refine RS.off (dj := 94) rfl (.inl (congrArg Value.bool hb12)) (fun _ => rfl) rfl ?_
      refine RS.off (dj := 94) rfl (.inl (congrArg Value.bool hb12)) (fun _ => rfl) rfl ?_
      refine RS.off (dj := 94) rfl (.inl (congrArg Value.bool hb12)) (fun _ => rfl) rfl ?_
      refine RS.on (dj := 85) rfl (congrArg Value.bool (beq_iff_eq.2 hsp2)) ?_
      refine RS.q rfl (QO.pickT (by rfl) hb12 (by rfl)) ?_
      refine RS.on (dj := 85) rfl (congrArg Value.bool (beq_iff_eq.2 hsp2)) ?_
      refine RS.q rfl (QO.move) ?_
      refine RS.off (dj := 99) rfl (.inl (congrArg Value.bool rfl)) (fun _ => rfl) rfl ?_
      refine RS.off (dj := 99) rfl (.inl (congrArg Value.bool rfl)) (fun _ => rfl) rfl ?_
      refine RS.off (dj := 99) rfl (.inl (congrArg Value.bool rfl)) (fun _ => rfl) rfl ?_
      refine RS.on (dj := 85) rfl (congrArg Value.bool (beq_iff_eq.2 hsp2)) ?_
      refine RS.q rfl (QO.pickT (by rfl) rfl (by rfl)) ?_
      refine RS.on (dj := 85) rfl (congrArg Value.bool (beq_iff_eq.2 hsp2)) ?_
      refine RS.q rfl (QO.move) ?_
      refine RS.off (dj := 104) rfl (.inl (congrArg Value.bool rfl)) (fun _ => rfl) rfl ?_
      refine RS.off (dj := 104) rfl (.inl (congrArg Value.bool rfl)) (fun _ => rfl) rfl ?_
      refine RS.off (dj := 104) rfl (.inl (congrArg Value.bool rfl)) (fun _ => rfl) rfl ?_
      refine RS.on (dj := 85) rfl (congrArg Value.bool (beq_iff_eq.2 hsp2)) ?_
      refine RS.q rfl (QO.pickT (by rfl) rfl (by rfl)) ?_
      refine RS.q rfl (QO.pickT (by rfl) (beq_iff_eq.2 hsp2) (by rfl)) ?_
      refine RS.q rfl (QO.assign) ?_
      refine RS.nil ?_
      refine thenC_n ?_
      refine CS.condT (by rfl) rfl ?_
      refine CS.skip ?_
      refine thenC_n ?_
      refine CS.condT (by rfl) rfl ?_
      refine CS.seq ?_
      refine CS.region ?_
      refine RS.q rfl (QO.assign) ?_
      refine RS.nil ?_
      refine thenC_n ?_
      refine CS.ret ?_
      refine blockC_r ?_
      refine thenC_r ?_
      refine retQ.mk (H' := []) (.inr rfl) (RVs.tmp (by rfl) RVs.nil) (List.nil_sublist _) ?_
      exact ⟨congrArg iv (winE_6 (by omega) (by unfold numW; assumption) (outW_f (nn_F (by assumption)) (nn_F (by assumption)) (nn_F (by assumption)) (nn_F (by assumption)) (nn_F (by assumption))) (by unfold badP; omega) (by assumption) (cnf_2 (by assumption) (by assumption))), rfl⟩
    refine RS.on (dj := 94) rfl (congrArg Value.bool hb12) ?_
    refine RS.q rfl (QO.fieldAddr fo61_3 (by rfl)) ?_
    refine RS.on (dj := 94) rfl (congrArg Value.bool hb12) ?_
    refine RS.q rfl (QO.load ty29 (by rfl) (by repeat (first | exact List.Mem.head _ | refine List.Mem.tail _ ?_)) (by rfl)) ?_
    refine RS.on (dj := 94) rfl (congrArg Value.bool hb12) ?_
    refine RS.q rfl (QO.fcmp32 (by rfl) (by rfl) (by simp)) ?_
    refine RS.on (dj := 85) rfl (congrArg Value.bool (beq_iff_eq.2 hsp2)) ?_
    refine RS.q rfl (QO.pickF (by rfl) hb12 (by rfl)) ?_
    refine RS.on (dj := 85) rfl (congrArg Value.bool (beq_iff_eq.2 hsp2)) ?_
    refine RS.q rfl (QO.move) ?_
    refine RS.split (dj := 99) (by rfl) (fun hb13 => ?_) (fun hb13 => ?_)
    · refine RS.off (dj := 99) rfl (.inl (congrArg Value.bool hb13)) (fun _ => rfl) rfl ?_
      refine RS.off (dj := 99) rfl (.inl (congrArg Value.bool hb13)) (fun _ => rfl) rfl ?_
      refine RS.off (dj := 99) rfl (.inl (congrArg Value.bool hb13)) (fun _ => rfl) rfl ?_
      refine RS.on (dj := 85) rfl (congrArg Value.bool (beq_iff_eq.2 hsp2)) ?_
      refine RS.q rfl (QO.pickT (by rfl) hb13 (by rfl)) ?_
      refine RS.on (dj := 85) rfl (congrArg Value.bool (beq_iff_eq.2 hsp2)) ?_
      refine RS.q rfl (QO.move) ?_
      refine RS.off (dj := 104) rfl (.inl (congrArg Value.bool rfl)) (fun _ => rfl) rfl ?_
      refine RS.off (dj := 104) rfl (.inl (congrArg Value.bool rfl)) (fun _ => rfl) rfl ?_
      refine RS.off (dj := 104) rfl (.inl (congrArg Value.bool rfl)) (fun _ => rfl) rfl ?_
      refine RS.on (dj := 85) rfl (congrArg Value.bool (beq_iff_eq.2 hsp2)) ?_
      refine RS.q rfl (QO.pickT (by rfl) rfl (by rfl)) ?_
      refine RS.q rfl (QO.pickT (by rfl) (beq_iff_eq.2 hsp2) (by rfl)) ?_
      refine RS.q rfl (QO.assign) ?_
      refine RS.nil ?_
      refine thenC_n ?_
      refine CS.condT (by rfl) rfl ?_
      refine CS.skip ?_
      refine thenC_n ?_
      refine CS.condT (by rfl) rfl ?_
      refine CS.seq ?_
      refine CS.region ?_
      refine RS.q rfl (QO.assign) ?_
      refine RS.nil ?_
      refine thenC_n ?_
      refine CS.ret ?_
      refine blockC_r ?_
      refine thenC_r ?_
      refine retQ.mk (H' := []) (.inr rfl) (RVs.tmp (by rfl) RVs.nil) (List.nil_sublist _) ?_
      exact ⟨congrArg iv (winE_6 (by omega) (by unfold numW; assumption) (outW_f (nn_F (by assumption)) (nn_F (by assumption)) (nn_F (by assumption)) (nn_F (by assumption)) (nn_F (by assumption))) (by unfold badP; omega) (by assumption) (cnf_3 (by assumption) (by assumption))), rfl⟩
    refine RS.on (dj := 99) rfl (congrArg Value.bool hb13) ?_
    refine RS.q rfl (QO.fieldAddr fo61_4 (by rfl)) ?_
    refine RS.on (dj := 99) rfl (congrArg Value.bool hb13) ?_
    refine RS.q rfl (QO.load ty29 (by rfl) (by repeat (first | exact List.Mem.head _ | refine List.Mem.tail _ ?_)) (by rfl)) ?_
    refine RS.on (dj := 99) rfl (congrArg Value.bool hb13) ?_
    refine RS.q rfl (QO.fcmp32 (by rfl) (by rfl) (by simp)) ?_
    refine RS.on (dj := 85) rfl (congrArg Value.bool (beq_iff_eq.2 hsp2)) ?_
    refine RS.q rfl (QO.pickF (by rfl) hb13 (by rfl)) ?_
    refine RS.on (dj := 85) rfl (congrArg Value.bool (beq_iff_eq.2 hsp2)) ?_
    refine RS.q rfl (QO.move) ?_
    refine RS.split (dj := 104) (by rfl) (fun hb14 => ?_) (fun hb14 => ?_)
    · refine RS.off (dj := 104) rfl (.inl (congrArg Value.bool hb14)) (fun _ => rfl) rfl ?_
      refine RS.off (dj := 104) rfl (.inl (congrArg Value.bool hb14)) (fun _ => rfl) rfl ?_
      refine RS.off (dj := 104) rfl (.inl (congrArg Value.bool hb14)) (fun _ => rfl) rfl ?_
      refine RS.on (dj := 85) rfl (congrArg Value.bool (beq_iff_eq.2 hsp2)) ?_
      refine RS.q rfl (QO.pickT (by rfl) hb14 (by rfl)) ?_
      refine RS.q rfl (QO.pickT (by rfl) (beq_iff_eq.2 hsp2) (by rfl)) ?_
      refine RS.q rfl (QO.assign) ?_
      refine RS.nil ?_
      refine thenC_n ?_
      refine CS.condT (by rfl) rfl ?_
      refine CS.skip ?_
      refine thenC_n ?_
      refine CS.condT (by rfl) rfl ?_
      refine CS.seq ?_
      refine CS.region ?_
      refine RS.q rfl (QO.assign) ?_
      refine RS.nil ?_
      refine thenC_n ?_
      refine CS.ret ?_
      refine blockC_r ?_
      refine thenC_r ?_
      refine retQ.mk (H' := []) (.inr rfl) (RVs.tmp (by rfl) RVs.nil) (List.nil_sublist _) ?_
      exact ⟨congrArg iv (winE_6 (by omega) (by unfold numW; assumption) (outW_f (nn_F (by assumption)) (nn_F (by assumption)) (nn_F (by assumption)) (nn_F (by assumption)) (nn_F (by assumption))) (by unfold badP; omega) (by assumption) (cnf_4 (by assumption) (by assumption))), rfl⟩
    refine RS.on (dj := 104) rfl (congrArg Value.bool hb14) ?_
    refine RS.q rfl (QO.fieldAddr fo61_5 (by rfl)) ?_
    refine RS.on (dj := 104) rfl (congrArg Value.bool hb14) ?_
    refine RS.q rfl (QO.load ty29 (by rfl) (by repeat (first | exact List.Mem.head _ | refine List.Mem.tail _ ?_)) (by rfl)) ?_
    refine RS.on (dj := 104) rfl (congrArg Value.bool hb14) ?_
    refine RS.q rfl (QO.fcmp32 (by rfl) (by rfl) (by simp)) ?_
    refine RS.on (dj := 85) rfl (congrArg Value.bool (beq_iff_eq.2 hsp2)) ?_
    refine RS.q rfl (QO.pickF (by rfl) hb14 (by rfl)) ?_
    refine RS.q rfl (QO.pickT (by rfl) (beq_iff_eq.2 hsp2) (by rfl)) ?_
    refine RS.q rfl (QO.assign) ?_
    refine RS.nil ?_
    refine thenC_n ?_
    refine CS.cond (by rfl) (fun hb15 => ?_) (fun hb15 => ?_)
    · refine CS.skip ?_
      refine thenC_n ?_
      refine CS.condT (by rfl) hb15 ?_
      refine CS.seq ?_
      refine CS.region ?_
      refine RS.q rfl (QO.assign) ?_
      refine RS.nil ?_
      refine thenC_n ?_
      refine CS.ret ?_
      refine blockC_r ?_
      refine thenC_r ?_
      refine retQ.mk (H' := []) (.inr rfl) (RVs.tmp (by rfl) RVs.nil) (List.nil_sublist _) ?_
      exact ⟨congrArg iv (winE_6 (by omega) (by unfold numW; assumption) (outW_f (nn_F (by assumption)) (nn_F (by assumption)) (nn_F (by assumption)) (nn_F (by assumption)) (nn_F (by assumption))) (by unfold badP; omega) (by assumption) (cnf_5 (by assumption) (by assumption))), rfl⟩
    refine CS.region ?_
    refine RS.q rfl (QO.fieldAddr fo61_0 (by rfl)) ?_
    refine RS.q rfl (QO.load ty3 (by rfl) (by repeat (first | exact List.Mem.head _ | refine List.Mem.tail _ ?_)) (by rfl)) ?_
    refine RS.q rfl (QO.eql (by rfl) (by rfl)) ?_
    refine RS.q rfl (QO.move) ?_
    refine RS.split (dj := 113) (by rfl) (fun hb16 => ?_) (fun hb16 => ?_)
    · have hb16p := eq_of_beq hb16
      refine RS.on (dj := 113) rfl (congrArg Value.bool hb16) ?_
      refine RS.q rfl (QO.fieldAddr fo61_3 (by rfl)) ?_
      refine RS.on (dj := 113) rfl (congrArg Value.bool hb16) ?_
      refine RS.q rfl (QO.load ty29 (by rfl) (by repeat (first | exact List.Mem.head _ | refine List.Mem.tail _ ?_)) (by rfl)) ?_
      refine RS.on (dj := 113) rfl (congrArg Value.bool hb16) ?_
      refine RS.q rfl (QO.fcmp32 (by rfl) (by rfl) (by simp)) ?_
      refine RS.on (dj := 113) rfl (congrArg Value.bool hb16) ?_
      refine RS.q rfl (QO.move) ?_
      refine RS.split (dj := 117) (by rfl) (fun hb17 => ?_) (fun hb17 => ?_)
      · refine RS.off (dj := 117) rfl (.inl (congrArg Value.bool hb17)) (fun _ => rfl) rfl ?_
        refine RS.off (dj := 117) rfl (.inl (congrArg Value.bool hb17)) (fun _ => rfl) rfl ?_
        refine RS.off (dj := 117) rfl (.inl (congrArg Value.bool hb17)) (fun _ => rfl) rfl ?_
        refine RS.on (dj := 113) rfl (congrArg Value.bool hb16) ?_
        refine RS.q rfl (QO.pickT (by rfl) hb17 (by rfl)) ?_
        refine RS.q rfl (QO.pickT (by rfl) hb16 (by rfl)) ?_
        refine RS.q rfl (QO.assign) ?_
        refine RS.nil ?_
        refine thenC_n ?_
        refine CS.condT (by rfl) rfl ?_
        refine CS.seq ?_
        refine CS.region ?_
        refine RS.q rfl (QO.assign) ?_
        refine RS.nil ?_
        refine thenC_n ?_
        refine CS.ret ?_
        refine blockC_r ?_
        refine thenC_r ?_
        refine retQ.mk (H' := []) (.inr rfl) (RVs.tmp (by rfl) RVs.nil) (List.nil_sublist _) ?_
        exact ⟨congrArg iv (winE_6 (by omega) (by unfold numW; assumption) (outW_f (nn_F (by assumption)) (nn_F (by assumption)) (nn_F (by assumption)) (nn_F (by assumption)) (nn_F (by assumption))) (by unfold badP; omega) (by assumption) (cnf_6 (by assumption) (by assumption))), rfl⟩
      refine RS.on (dj := 117) rfl (congrArg Value.bool hb17) ?_
      refine RS.q rfl (QO.fieldAddr fo61_4 (by rfl)) ?_
      refine RS.on (dj := 117) rfl (congrArg Value.bool hb17) ?_
      refine RS.q rfl (QO.load ty29 (by rfl) (by repeat (first | exact List.Mem.head _ | refine List.Mem.tail _ ?_)) (by rfl)) ?_
      refine RS.on (dj := 117) rfl (congrArg Value.bool hb17) ?_
      refine RS.q rfl (QO.fcmp32 (by rfl) (by rfl) (by simp)) ?_
      refine RS.on (dj := 113) rfl (congrArg Value.bool hb16) ?_
      refine RS.q rfl (QO.pickF (by rfl) hb17 (by rfl)) ?_
      refine RS.q rfl (QO.pickT (by rfl) hb16 (by rfl)) ?_
      refine RS.q rfl (QO.assign) ?_
      refine RS.nil ?_
      refine thenC_n ?_
      refine CS.cond (by rfl) (fun hb18 => ?_) (fun hb18 => ?_)
      · refine CS.seq ?_
        refine CS.region ?_
        refine RS.q rfl (QO.assign) ?_
        refine RS.nil ?_
        refine thenC_n ?_
        refine CS.ret ?_
        refine blockC_r ?_
        refine thenC_r ?_
        refine retQ.mk (H' := []) (.inr rfl) (RVs.tmp (by rfl) RVs.nil) (List.nil_sublist _) ?_
        exact ⟨congrArg iv (winE_6 (by omega) (by unfold numW; assumption) (outW_f (nn_F (by assumption)) (nn_F (by assumption)) (nn_F (by assumption)) (nn_F (by assumption)) (nn_F (by assumption))) (by unfold badP; omega) (by assumption) (cnf_7 (by assumption) (by assumption))), rfl⟩
      refine CS.skip ?_
      refine blockC_n ?_
      refine thenC_n ?_
      refine CS.seq ?_
      refine CS.region ?_
      refine RS.q rfl (QO.assign) ?_
      refine RS.nil ?_
      refine thenC_n ?_
      refine CS.ret ?_
      refine retQ.mk (H' := []) (.inr rfl) (RVs.tmp (by rfl) RVs.nil) (List.nil_sublist _) ?_
      exact ⟨congrArg iv (winE_0 (by omega) (by unfold numW; assumption) (outW_f (nn_F (by assumption)) (nn_F (by assumption)) (nn_F (by assumption)) (nn_F (by assumption)) (nn_F (by assumption))) (by unfold badP; omega) (by assumption) (cnf_a (by assumption) (by assumption) (by assumption) (by assumption) (by assumption) (by assumption))), rfl⟩
    have hb16p := ne_of_beq_false hb16
    refine RS.off (dj := 113) rfl (.inl (congrArg Value.bool hb16)) (fun _ => rfl) rfl ?_
    refine RS.off (dj := 113) rfl (.inl (congrArg Value.bool hb16)) (fun _ => rfl) rfl ?_
    refine RS.off (dj := 113) rfl (.inl (congrArg Value.bool hb16)) (fun _ => rfl) rfl ?_
    refine RS.off (dj := 113) rfl (.inl (congrArg Value.bool hb16)) (fun _ => rfl) rfl ?_
    refine RS.off (dj := 117) (c := true) rfl (.inr rfl) (fun h => by cases h) rfl ?_
    refine RS.off (dj := 117) (c := true) rfl (.inr rfl) (fun h => by cases h) rfl ?_
    refine RS.off (dj := 117) (c := true) rfl (.inr rfl) (fun h => by cases h) rfl ?_
    refine RS.off (dj := 113) rfl (.inl (congrArg Value.bool hb16)) (fun _ => rfl) rfl ?_
    refine RS.q rfl (QO.pickF (by rfl) hb16 (by rfl)) ?_
    refine RS.q rfl (QO.assign) ?_
    refine RS.nil ?_
    refine thenC_n ?_
    refine CS.condF (by rfl) rfl ?_
    refine CS.skip ?_
    refine blockC_n ?_
    refine thenC_n ?_
    refine CS.seq ?_
    refine CS.region ?_
    refine RS.q rfl (QO.assign) ?_
    refine RS.nil ?_
    refine thenC_n ?_
    refine CS.ret ?_
    refine retQ.mk (H' := []) (.inr rfl) (RVs.tmp (by rfl) RVs.nil) (List.nil_sublist _) ?_
    exact ⟨congrArg iv (winE_0 (by omega) (by unfold numW; assumption) (outW_f (nn_F (by assumption)) (nn_F (by assumption)) (nn_F (by assumption)) (nn_F (by assumption)) (nn_F (by assumption))) (by unfold badP; omega) (by assumption) (cnf_a (by assumption) (by assumption) (by assumption) (by assumption) (by assumption) (by assumption))), rfl⟩
  refine CS.region ?_
  refine RS.q rfl (QO.fieldAddr fo61_0 (by rfl)) ?_
  refine RS.q rfl (QO.load ty3 (by rfl) (by repeat (first | exact List.Mem.head _ | refine List.Mem.tail _ ?_)) (by rfl)) ?_
  refine RS.q rfl (QO.eql (by rfl) (by rfl)) ?_
  refine RS.q rfl (QO.assign) ?_
  refine RS.nil ?_
  refine thenC_n ?_
  refine CS.seq ?_
  refine CS.block ?_
  refine CS.seq ?_
  refine CS.region ?_
  refine RS.q rfl (QO.fieldAddr fo61_0 (by rfl)) ?_
  refine RS.q rfl (QO.load ty3 (by rfl) (by repeat (first | exact List.Mem.head _ | refine List.Mem.tail _ ?_)) (by rfl)) ?_
  refine RS.q rfl (QO.lss (by rfl) (by rfl)) ?_
  refine RS.q rfl (QO.move) ?_
  refine RS.split (dj := 12) (by rfl) (fun hb19 => ?_) (fun hb19 => ?_)
  · have hb19p := of_decide_eq_true hb19
    refine RS.off (dj := 12) rfl (.inl (congrArg Value.bool hb19)) (fun _ => rfl) rfl ?_
    refine RS.off (dj := 12) rfl (.inl (congrArg Value.bool hb19)) (fun _ => rfl) rfl ?_
    refine RS.off (dj := 12) rfl (.inl (congrArg Value.bool hb19)) (fun _ => rfl) rfl ?_
    refine RS.q rfl (QO.pickT (by rfl) hb19 (by rfl)) ?_
    refine RS.q rfl (QO.assign) ?_
    refine RS.nil ?_
    refine thenC_n ?_
    refine CS.condT (by rfl) rfl ?_
    refine CS.seq ?_
    refine CS.region ?_
    refine RS.q rfl (QO.assign) ?_
    refine RS.nil ?_
    refine thenC_n ?_
    refine CS.ret ?_
    refine blockC_r ?_
    refine thenC_r ?_
    refine retQ.mk (H' := []) (.inr rfl) (RVs.tmp (by rfl) RVs.nil) (List.nil_sublist _) ?_
    exact ⟨congrArg iv (winE_1 (by omega)), rfl⟩
  have hb19p := of_decide_eq_false hb19
  refine RS.on (dj := 12) rfl (congrArg Value.bool hb19) ?_
  refine RS.q rfl (QO.fieldAddr fo61_0 (by rfl)) ?_
  refine RS.on (dj := 12) rfl (congrArg Value.bool hb19) ?_
  refine RS.q rfl (QO.load ty3 (by rfl) (by repeat (first | exact List.Mem.head _ | refine List.Mem.tail _ ?_)) (by rfl)) ?_
  refine RS.on (dj := 12) rfl (congrArg Value.bool hb19) ?_
  refine RS.q rfl (QO.gtr (by rfl) (by rfl)) ?_
  refine RS.q rfl (QO.pickF (by rfl) hb19 (by rfl)) ?_
  refine RS.q rfl (QO.assign) ?_
  refine RS.nil ?_
  refine thenC_n ?_
  refine CS.cond (by rfl) (fun hb20 => ?_) (fun hb20 => ?_)
  · have hb20p := of_decide_eq_true hb20
    refine CS.seq ?_
    refine CS.region ?_
    refine RS.q rfl (QO.assign) ?_
    refine RS.nil ?_
    refine thenC_n ?_
    refine CS.ret ?_
    refine blockC_r ?_
    refine thenC_r ?_
    refine retQ.mk (H' := []) (.inr rfl) (RVs.tmp (by rfl) RVs.nil) (List.nil_sublist _) ?_
    exact ⟨congrArg iv (winE_1 (by omega)), rfl⟩
  have hb20p := of_decide_eq_false hb20
  refine CS.seq ?_
  refine CS.region ?_
  refine RS.q rfl (QO.fieldAddr fo61_1 (by rfl)) ?_
  refine RS.q rfl (QO.load ty29 (by rfl) (by repeat (first | exact List.Mem.head _ | refine List.Mem.tail _ ?_)) (by rfl)) ?_
  refine RS.q rfl (QO.fieldAddr fo61_2 (by rfl)) ?_
  refine RS.q rfl (QO.load ty29 (by rfl) (by repeat (first | exact List.Mem.head _ | refine List.Mem.tail _ ?_)) (by rfl)) ?_
  refine RS.q rfl (QO.fieldAddr fo61_3 (by rfl)) ?_
  refine RS.q rfl (QO.load ty29 (by rfl) (by repeat (first | exact List.Mem.head _ | refine List.Mem.tail _ ?_)) (by rfl)) ?_
  refine RS.q rfl (QO.fieldAddr fo61_4 (by rfl)) ?_
  refine RS.q rfl (QO.load ty29 (by rfl) (by repeat (first | exact List.Mem.head _ | refine List.Mem.tail _ ?_)) (by rfl)) ?_
  refine RS.q rfl (QO.fieldAddr fo61_5 (by rfl)) ?_
  refine RS.q rfl (QO.load ty29 (by rfl) (by repeat (first | exact List.Mem.head _ | refine List.Mem.tail _ ?_)) (by rfl)) ?_
  refine RS.buildSlice rfl Try.underlying24 ty29 (by decide) (by decide) (by rfl) (by rfl) ?_
  intro g28
  refine RS.call rfl (by rfl) ok122 (by rfl) (fun w ho => numbers (some ⟨g28, 0, none⟩) 5 5 [u.x, u.y, u.w, u.h, u.soft] _ rfl (FS.blk' (xs := [u.x, u.y, u.w, u.h, u.soft]) ho (by repeat (first | exact List.Mem.head _ | refine List.Mem.tail _ ?_))) (by decide)) ?_
  rintro _ _ ⟨rfl, rfl⟩
  refine RS.q rfl (QO.not (by rfl)) ?_
  refine RS.q rfl (QO.assign) ?_
  refine RS.nil ?_
  refine thenC_n ?_
  refine CS.cond (by rfl) (fun hb21 => ?_) (fun hb21 => ?_)
  · have hb21p := Eq.mp (Bool.not_eq_true' _) hb21
    refine CS.seq ?_
    refine CS.region ?_
    refine RS.q rfl (QO.assign) ?_
    refine RS.nil ?_
    refine thenC_n ?_
    refine CS.ret ?_
    refine blockC_r ?_
    refine thenC_r ?_
    refine retQ.mk (H' := []) (.inr rfl) (RVs.tmp (by rfl) RVs.nil) (List.nil_sublist _) ?_
    exact ⟨congrArg iv (winE_2 (by omega) (by unfold numW; assumption)), rfl⟩
  have hb21p := Eq.mp (Bool.not_eq_false' _) hb21
  refine CS.seq ?_
  refine CS.seq ?_
  refine CS.region ?_
  refine RS.q rfl (QO.move) ?_
  refine RS.q rfl (QO.fieldAddr fo61_1 (by rfl)) ?_
  refine RS.q rfl (QO.load ty29 (by rfl) (by repeat (first | exact List.Mem.head _ | refine List.Mem.tail _ ?_)) (by rfl)) ?_
  refine RS.call rfl (by rfl) ok121 (by rfl) (fun w ho => inWp u.x _ (numW_all (u := u) (by unfold numW; assumption)).1) ?_
  rintro _ _ ⟨rfl, rfl⟩
  refine RS.q rfl (QO.not (by rfl)) ?_
  refine RS.q rfl (QO.assign) ?_
  refine RS.nil ?_
  refine thenC_n ?_
  refine CS.cond (by rfl) (fun hb22 => ?_) (fun hb22 => ?_)
  · have hb22p := Eq.mp (Bool.not_eq_true' _) hb22
    refine CS.skip ?_
    refine thenC_n ?_
    refine CS.condT (by rfl) hb22 ?_
    refine CS.seq ?_
    refine CS.region ?_
    refine RS.q rfl (QO.assign) ?_
    refine RS.nil ?_
    refine thenC_n ?_
    refine CS.ret ?_
    refine blockC_r ?_
    refine thenC_r ?_
    refine retQ.mk (H' := []) (.inr rfl) (RVs.tmp (by rfl) RVs.nil) (List.nil_sublist _) ?_
    exact ⟨congrArg iv (winE_3 (by omega) (by unfold numW; assumption) (outW_1 (nn_T (by assumption)))), rfl⟩
  have hb22p := Eq.mp (Bool.not_eq_false' _) hb22
  refine CS.seq ?_
  refine CS.region ?_
  refine RS.q rfl (QO.move) ?_
  refine RS.q rfl (QO.fieldAddr fo61_2 (by rfl)) ?_
  refine RS.q rfl (QO.load ty29 (by rfl) (by repeat (first | exact List.Mem.head _ | refine List.Mem.tail _ ?_)) (by rfl)) ?_
  refine RS.call rfl (by rfl) ok121 (by rfl) (fun w ho => inWp u.y _ (numW_all (u := u) (by unfold numW; assumption)).2.1) ?_
  rintro _ _ ⟨rfl, rfl⟩
  refine RS.q rfl (QO.not (by rfl)) ?_
  refine RS.q rfl (QO.assign) ?_
  refine RS.nil ?_
  refine thenC_n ?_
  refine CS.cond (by rfl) (fun hb23 => ?_) (fun hb23 => ?_)
  · have hb23p := Eq.mp (Bool.not_eq_true' _) hb23
    refine CS.skip ?_
    refine thenC_n ?_
    refine CS.condT (by rfl) hb23 ?_
    refine CS.seq ?_
    refine CS.region ?_
    refine RS.q rfl (QO.assign) ?_
    refine RS.nil ?_
    refine thenC_n ?_
    refine CS.ret ?_
    refine blockC_r ?_
    refine thenC_r ?_
    refine retQ.mk (H' := []) (.inr rfl) (RVs.tmp (by rfl) RVs.nil) (List.nil_sublist _) ?_
    exact ⟨congrArg iv (winE_3 (by omega) (by unfold numW; assumption) (outW_2 (nn_T (by assumption)))), rfl⟩
  have hb23p := Eq.mp (Bool.not_eq_false' _) hb23
  refine CS.seq ?_
  refine CS.region ?_
  refine RS.q rfl (QO.move) ?_
  refine RS.q rfl (QO.fieldAddr fo61_3 (by rfl)) ?_
  refine RS.q rfl (QO.load ty29 (by rfl) (by repeat (first | exact List.Mem.head _ | refine List.Mem.tail _ ?_)) (by rfl)) ?_
  refine RS.call rfl (by rfl) ok121 (by rfl) (fun w ho => inWs u.w _ (numW_all (u := u) (by unfold numW; assumption)).2.2.1) ?_
  rintro _ _ ⟨rfl, rfl⟩
  refine RS.q rfl (QO.not (by rfl)) ?_
  refine RS.q rfl (QO.assign) ?_
  refine RS.nil ?_
  refine thenC_n ?_
  refine CS.cond (by rfl) (fun hb24 => ?_) (fun hb24 => ?_)
  · have hb24p := Eq.mp (Bool.not_eq_true' _) hb24
    refine CS.skip ?_
    refine thenC_n ?_
    refine CS.condT (by rfl) hb24 ?_
    refine CS.seq ?_
    refine CS.region ?_
    refine RS.q rfl (QO.assign) ?_
    refine RS.nil ?_
    refine thenC_n ?_
    refine CS.ret ?_
    refine blockC_r ?_
    refine thenC_r ?_
    refine retQ.mk (H' := []) (.inr rfl) (RVs.tmp (by rfl) RVs.nil) (List.nil_sublist _) ?_
    exact ⟨congrArg iv (winE_3 (by omega) (by unfold numW; assumption) (outW_3 (nn_T (by assumption)))), rfl⟩
  have hb24p := Eq.mp (Bool.not_eq_false' _) hb24
  refine CS.seq ?_
  refine CS.region ?_
  refine RS.q rfl (QO.move) ?_
  refine RS.q rfl (QO.fieldAddr fo61_4 (by rfl)) ?_
  refine RS.q rfl (QO.load ty29 (by rfl) (by repeat (first | exact List.Mem.head _ | refine List.Mem.tail _ ?_)) (by rfl)) ?_
  refine RS.call rfl (by rfl) ok121 (by rfl) (fun w ho => inWs u.h _ (numW_all (u := u) (by unfold numW; assumption)).2.2.2.1) ?_
  rintro _ _ ⟨rfl, rfl⟩
  refine RS.q rfl (QO.not (by rfl)) ?_
  refine RS.q rfl (QO.assign) ?_
  refine RS.nil ?_
  refine thenC_n ?_
  refine CS.cond (by rfl) (fun hb25 => ?_) (fun hb25 => ?_)
  · have hb25p := Eq.mp (Bool.not_eq_true' _) hb25
    refine CS.skip ?_
    refine thenC_n ?_
    refine CS.condT (by rfl) hb25 ?_
    refine CS.seq ?_
    refine CS.region ?_
    refine RS.q rfl (QO.assign) ?_
    refine RS.nil ?_
    refine thenC_n ?_
    refine CS.ret ?_
    refine blockC_r ?_
    refine thenC_r ?_
    refine retQ.mk (H' := []) (.inr rfl) (RVs.tmp (by rfl) RVs.nil) (List.nil_sublist _) ?_
    exact ⟨congrArg iv (winE_3 (by omega) (by unfold numW; assumption) (outW_4 (nn_T (by assumption)))), rfl⟩
  have hb25p := Eq.mp (Bool.not_eq_false' _) hb25
  refine CS.region ?_
  refine RS.q rfl (QO.move) ?_
  refine RS.q rfl (QO.fieldAddr fo61_5 (by rfl)) ?_
  refine RS.q rfl (QO.load ty29 (by rfl) (by repeat (first | exact List.Mem.head _ | refine List.Mem.tail _ ?_)) (by rfl)) ?_
  refine RS.call rfl (by rfl) ok121 (by rfl) (fun w ho => inWo u.soft _ (numW_all (u := u) (by unfold numW; assumption)).2.2.2.2) ?_
  rintro _ _ ⟨rfl, rfl⟩
  refine RS.q rfl (QO.not (by rfl)) ?_
  refine RS.q rfl (QO.assign) ?_
  refine RS.nil ?_
  refine thenC_n ?_
  refine CS.cond (by rfl) (fun hb26 => ?_) (fun hb26 => ?_)
  · have hb26p := Eq.mp (Bool.not_eq_true' _) hb26
    refine CS.seq ?_
    refine CS.region ?_
    refine RS.q rfl (QO.assign) ?_
    refine RS.nil ?_
    refine thenC_n ?_
    refine CS.ret ?_
    refine blockC_r ?_
    refine thenC_r ?_
    refine retQ.mk (H' := []) (.inr rfl) (RVs.tmp (by rfl) RVs.nil) (List.nil_sublist _) ?_
    exact ⟨congrArg iv (winE_3 (by omega) (by unfold numW; assumption) (outW_5 (nn_T (by assumption)))), rfl⟩
  have hb26p := Eq.mp (Bool.not_eq_false' _) hb26
  refine CS.seq ?_
  refine CS.seq ?_
  refine CS.region ?_
  refine RS.q rfl (QO.move) ?_
  refine RS.q rfl (QO.move) ?_
  refine RS.off (dj := 59) rfl (.inl (congrArg Value.bool (beq_eq_false_iff_ne.2 hsp2))) (fun _ => rfl) rfl ?_
  refine RS.off (dj := 59) rfl (.inl (congrArg Value.bool (beq_eq_false_iff_ne.2 hsp2))) (fun _ => rfl) rfl ?_
  refine RS.off (dj := 59) rfl (.inl (congrArg Value.bool (beq_eq_false_iff_ne.2 hsp2))) (fun _ => rfl) rfl ?_
  refine RS.off (dj := 59) rfl (.inl (congrArg Value.bool (beq_eq_false_iff_ne.2 hsp2))) (fun _ => rfl) rfl ?_
  refine RS.off (dj := 59) rfl (.inl (congrArg Value.bool (beq_eq_false_iff_ne.2 hsp2))) (fun _ => rfl) rfl ?_
  refine RS.off (dj := 64) (c := true) rfl (.inr rfl) (fun h => by cases h) rfl ?_
  refine RS.off (dj := 64) (c := true) rfl (.inr rfl) (fun h => by cases h) rfl ?_
  refine RS.off (dj := 64) (c := true) rfl (.inr rfl) (fun h => by cases h) rfl ?_
  refine RS.off (dj := 64) (c := true) rfl (.inr rfl) (fun h => by cases h) rfl ?_
  refine RS.off (dj := 59) rfl (.inl (congrArg Value.bool (beq_eq_false_iff_ne.2 hsp2))) (fun _ => rfl) rfl ?_
  refine RS.q rfl (QO.pickF (by rfl) (beq_eq_false_iff_ne.2 hsp2) (by rfl)) ?_
  refine RS.q rfl (QO.assign) ?_
  refine RS.nil ?_
  refine thenC_n ?_
  refine CS.condF (by rfl) rfl ?_
  refine CS.region ?_
  refine RS.q rfl (QO.move) ?_
  refine RS.q rfl (QO.not (by rfl)) ?_
  refine RS.q rfl (QO.move) ?_
  refine RS.on (dj := 73) rfl (congrArg Value.bool (by rw [(beq_eq_false_iff_ne.2 hsp2)] <;> rfl)) ?_
  refine RS.q rfl (QO.fieldAddr fo61_6 (by rfl)) ?_
  refine RS.on (dj := 73) rfl (congrArg Value.bool (by rw [(beq_eq_false_iff_ne.2 hsp2)] <;> rfl)) ?_
  refine RS.q rfl (QO.load ty59 (by rfl) (by repeat (first | exact List.Mem.head _ | refine List.Mem.tail _ ?_)) (by rfl)) ?_
  refine RS.on (dj := 73) rfl (congrArg Value.bool (by rw [(beq_eq_false_iff_ne.2 hsp2)] <;> rfl)) ?_
  refine RS.q rfl (QO.lenS Try.underlying59 (by rfl)) ?_
  refine RS.on (dj := 73) rfl (congrArg Value.bool (by rw [(beq_eq_false_iff_ne.2 hsp2)] <;> rfl)) ?_
  refine RS.q rfl (QO.gtr (by rfl) (by rfl)) ?_
  refine RS.q rfl (QO.pickT (by rfl) (by rw [(beq_eq_false_iff_ne.2 hsp2)] <;> rfl) (by rfl)) ?_
  refine RS.q rfl (QO.assign) ?_
  refine RS.nil ?_
  refine thenC_n ?_
  refine CS.cond (by rfl) (fun hb27 => ?_) (fun hb27 => ?_)
  · have hb27p := of_decide_eq_true hb27
    refine CS.seq ?_
    refine CS.region ?_
    refine RS.q rfl (QO.assign) ?_
    refine RS.nil ?_
    refine thenC_n ?_
    refine CS.ret ?_
    refine blockC_r ?_
    refine thenC_r ?_
    refine retQ.mk (H' := []) (.inr rfl) (RVs.tmp (by rfl) RVs.nil) (List.nil_sublist _) ?_
    exact ⟨congrArg iv (winE_4 (by omega) (by unfold numW; assumption) (outW_f (nn_F (by assumption)) (nn_F (by assumption)) (nn_F (by assumption)) (nn_F (by assumption)) (nn_F (by assumption))) (by unfold badP; omega)), rfl⟩
  have hb27p := of_decide_eq_false hb27
  refine CS.seq ?_
  refine CS.region ?_
  refine RS.q rfl (QO.fieldAddr fo61_6 (by rfl)) ?_
  refine RS.q rfl (QO.load ty59 (by rfl) (by repeat (first | exact List.Mem.head _ | refine List.Mem.tail _ ?_)) (by rfl)) ?_
  refine RS.call rfl (by rfl) ok123 (by rfl) (fun w ho => containsP2 A c u.pts _ (hA.own ho) hm) ?_
  rintro _ _ ⟨rfl, rfl⟩
  refine RS.q rfl (QO.assign) ?_
  refine RS.nil ?_
  refine thenC_n ?_
  refine CS.cond (by rfl) (fun hb28 => ?_) (fun hb28 => ?_)
  · refine CS.seq ?_
    refine CS.region ?_
    refine RS.q rfl (QO.assign) ?_
    refine RS.nil ?_
    refine thenC_n ?_
    refine CS.ret ?_
    refine blockC_r ?_
    refine thenC_r ?_
    refine retQ.mk (H' := []) (.inr rfl) (RVs.tmp (by rfl) RVs.nil) (List.nil_sublist _) ?_
    exact ⟨congrArg iv (winE_5 (by omega) (by unfold numW; assumption) (outW_f (nn_F (by assumption)) (nn_F (by assumption)) (nn_F (by assumption)) (nn_F (by assumption)) (nn_F (by assumption))) (by unfold badP; omega) (by assumption)), rfl⟩
  refine CS.seq ?_
  refine CS.seq ?_
  refine CS.region ?_
  refine RS.q rfl (QO.move) ?_
  refine RS.q rfl (QO.move) ?_
  refine RS.off (dj := 85) rfl (.inl (congrArg Value.bool (beq_eq_false_iff_ne.2 hsp2))) (fun _ => rfl) rfl ?_
  refine RS.off (dj := 85) rfl (.inl (congrArg Value.bool (beq_eq_false_iff_ne.2 hsp2))) (fun _ => rfl) rfl ?_
  refine RS.off (dj := 85) rfl (.inl (congrArg Value.bool (beq_eq_false_iff_ne.2 hsp2))) (fun _ => rfl) rfl ?_
  refine RS.off (dj := 85) rfl (.inl (congrArg Value.bool (beq_eq_false_iff_ne.2 hsp2))) (fun _ => rfl) rfl ?_
  refine RS.off (dj := 89) (c := true) rfl (.inr rfl) (fun h => by cases h) rfl ?_
  refine RS.off (dj := 89) (c := true) rfl (.inr rfl) (fun h => by cases h) rfl ?_
  refine RS.off (dj := 89) (c := true) rfl (.inr rfl) (fun h => by cases h) rfl ?_
  refine RS.off (dj := 85) rfl (.inl (congrArg Value.bool (beq_eq_false_iff_ne.2 hsp2))) (fun _ => rfl) rfl ?_
  refine RS.off (dj := 85) rfl (.inl (congrArg Value.bool (beq_eq_false_iff_ne.2 hsp2))) (fun _ => rfl) rfl ?_
  refine RS.off (dj := 94) (c := true) rfl (.inr rfl) (fun h => by cases h) rfl ?_
  refine RS.off (dj := 94) (c := true) rfl (.inr rfl) (fun h => by cases h) rfl ?_
  refine RS.off (dj := 94) (c := true) rfl (.inr rfl) (fun h => by cases h) rfl ?_
  refine RS.off (dj := 85) rfl (.inl (congrArg Value.bool (beq_eq_false_iff_ne.2 hsp2))) (fun _ => rfl) rfl ?_
  refine RS.off (dj := 85) rfl (.inl (congrArg Value.bool (beq_eq_false_iff_ne.2 hsp2))) (fun _ => rfl) rfl ?_
  refine RS.off (dj := 99) (c := true) rfl (.inr rfl) (fun h => by cases h) rfl ?_
  refine RS.off (dj := 99) (c := true) rfl (.inr rfl) (fun h => by cases h) rfl ?_
  refine RS.off (dj := 99) (c := true) rfl (.inr rfl) (fun h => by cases h) rfl ?_
  refine RS.off (dj := 85) rfl (.inl (congrArg Value.bool (beq_eq_false_iff_ne.2 hsp2))) (fun _ => rfl) rfl ?_
  refine RS.off (dj := 85) rfl (.inl (congrArg Value.bool (beq_eq_false_iff_ne.2 hsp2))) (fun _ => rfl) rfl ?_
  refine RS.off (dj := 104) (c := true) rfl (.inr rfl) (fun h => by cases h) rfl ?_
  refine RS.off (dj := 104) (c := true) rfl (.inr rfl) (fun h => by cases h) rfl ?_
  refine RS.off (dj := 104) (c := true) rfl (.inr rfl) (fun h => by cases h) rfl ?_
  refine RS.off (dj := 85) rfl (.inl (congrArg Value.bool (beq_eq_false_iff_ne.2 hsp2))) (fun _ => rfl) rfl ?_
  refine RS.q rfl (QO.pickF (by rfl) (beq_eq_false_iff_ne.2 hsp2) (by rfl)) ?_
  refine RS.q rfl (QO.assign) ?_
  refine RS.nil ?_
  refine thenC_n ?_
  refine CS.condF (by rfl) rfl ?_
  refine CS.region ?_
  refine RS.q rfl (QO.fieldAddr fo61_0 (by rfl)) ?_
  refine RS.q rfl (QO.load ty3 (by rfl) (by repeat (first | exact List.Mem.head _ | refine List.Mem.tail _ ?_)) (by rfl)) ?_
  refine RS.q rfl (QO.eql (by rfl) (by rfl)) ?_
  refine RS.q rfl (QO.move) ?_
  refine RS.split (dj := 113) (by rfl) (fun hb29 => ?_) (fun hb29 => ?_)
  · have hb29p := eq_of_beq hb29
    refine RS.on (dj := 113) rfl (congrArg Value.bool hb29) ?_
    refine RS.q rfl (QO.fieldAddr fo61_3 (by rfl)) ?_
    refine RS.on (dj := 113) rfl (congrArg Value.bool hb29) ?_
    refine RS.q rfl (QO.load ty29 (by rfl) (by repeat (first | exact List.Mem.head _ | refine List.Mem.tail _ ?_)) (by rfl)) ?_
    refine RS.on (dj := 113) rfl (congrArg Value.bool hb29) ?_
    refine RS.q rfl (QO.fcmp32 (by rfl) (by rfl) (by simp)) ?_
    refine RS.on (dj := 113) rfl (congrArg Value.bool hb29) ?_
    refine RS.q rfl (QO.move) ?_
    refine RS.split (dj := 117) (by rfl) (fun hb30 => ?_) (fun hb30 => ?_)
    · refine RS.off (dj := 117) rfl (.inl (congrArg Value.bool hb30)) (fun _ => rfl) rfl ?_
      refine RS.off (dj := 117) rfl (.inl (congrArg Value.bool hb30)) (fun _ => rfl) rfl ?_
      refine RS.off (dj := 117) rfl (.inl (congrArg Value.bool hb30)) (fun _ => rfl) rfl ?_
      refine RS.on (dj := 113) rfl (congrArg Value.bool hb29) ?_
      refine RS.q rfl (QO.pickT (by rfl) hb30 (by rfl)) ?_
      refine RS.q rfl (QO.pickT (by rfl) hb29 (by rfl)) ?_
      refine RS.q rfl (QO.assign) ?_
      refine RS.nil ?_
      refine thenC_n ?_
      refine CS.condT (by rfl) rfl ?_
      refine CS.seq ?_
      refine CS.region ?_
      refine RS.q rfl (QO.assign) ?_
      refine RS.nil ?_
      refine thenC_n ?_
      refine CS.ret ?_
      refine blockC_r ?_
      refine thenC_r ?_
      refine retQ.mk (H' := []) (.inr rfl) (RVs.tmp (by rfl) RVs.nil) (List.nil_sublist _) ?_
      exact ⟨congrArg iv (winE_6 (by omega) (by unfold numW; assumption) (outW_f (nn_F (by assumption)) (nn_F (by assumption)) (nn_F (by assumption)) (nn_F (by assumption)) (nn_F (by assumption))) (by unfold badP; omega) (by assumption) (cnf_6 (by assumption) (by assumption))), rfl⟩
    refine RS.on (dj := 117) rfl (congrArg Value.bool hb30) ?_
    refine RS.q rfl (QO.fieldAddr fo61_4 (by rfl)) ?_
    refine RS.on (dj := 117) rfl (congrArg Value.bool hb30) ?_
    refine RS.q rfl (QO.load ty29 (by rfl) (by repeat (first | exact List.Mem.head _ | refine List.Mem.tail _ ?_)) (by rfl)) ?_
    refine RS.on (dj := 117) rfl (congrArg Value.bool hb30) ?_
    refine RS.q rfl (QO.fcmp32 (by rfl) (by rfl) (by simp)) ?_
    refine RS.on (dj := 113) rfl (congrArg Value.bool hb29) ?_
    refine RS.q rfl (QO.pickF (by rfl) hb30 (by rfl)) ?_
    refine RS.q rfl (QO.pickT (by rfl) hb29 (by rfl)) ?_
    refine RS.q rfl (QO.assign) ?_
    refine RS.nil ?_
    refine thenC_n ?_
    refine CS.cond (by rfl) (fun hb31 => ?_) (fun hb31 => ?_)
    · refine CS.seq ?_
      refine CS.region ?_
      refine RS.q rfl (QO.assign) ?_
      refine RS.nil ?_
      refine thenC_n ?_
      refine CS.ret ?_
      refine blockC_r ?_
      refine thenC_r ?_
      refine retQ.mk (H' := []) (.inr rfl) (RVs.tmp (by rfl) RVs.nil) (List.nil_sublist _) ?_
      exact ⟨congrArg iv (winE_6 (by omega) (by unfold numW; assumption) (outW_f (nn_F (by assumption)) (nn_F (by assumption)) (nn_F (by assumption)) (nn_F (by assumption)) (nn_F (by assumption))) (by unfold badP; omega) (by assumption) (cnf_7 (by assumption) (by assumption))), rfl⟩
    refine CS.skip ?_
    refine blockC_n ?_
    refine thenC_n ?_
    refine CS.seq ?_
    refine CS.region ?_
    refine RS.q rfl (QO.assign) ?_
    refine RS.nil ?_
    refine thenC_n ?_
    refine CS.ret ?_
    refine retQ.mk (H' := []) (.inr rfl) (RVs.tmp (by rfl) RVs.nil) (List.nil_sublist _) ?_
    exact ⟨congrArg iv (winE_0 (by omega) (by unfold numW; assumption) (outW_f (nn_F (by assumption)) (nn_F (by assumption)) (nn_F (by assumption)) (nn_F (by assumption)) (nn_F (by assumption))) (by unfold badP; omega) (by assumption) (cnf_b (by omega) (by assumption) (by assumption))), rfl⟩
  have hb29p := ne_of_beq_false hb29
  refine RS.off (dj := 113) rfl (.inl (congrArg Value.bool hb29)) (fun _ => rfl) rfl ?_
  refine RS.off (dj := 113) rfl (.inl (congrArg Value.bool hb29)) (fun _ => rfl) rfl ?_
  refine RS.off (dj := 113) rfl (.inl (congrArg Value.bool hb29)) (fun _ => rfl) rfl ?_
  refine RS.off (dj := 113) rfl (.inl (congrArg Value.bool hb29)) (fun _ => rfl) rfl ?_
  refine RS.off (dj := 117) (c := true) rfl (.inr rfl) (fun h => by cases h) rfl ?_
  refine RS.off (dj := 117) (c := true) rfl (.inr rfl) (fun h => by cases h) rfl ?_
  refine RS.off (dj := 117) (c := true) rfl (.inr rfl) (fun h => by cases h) rfl ?_
  refine RS.off (dj := 113) rfl (.inl (congrArg Value.bool hb29)) (fun _ => rfl) rfl ?_
  refine RS.q rfl (QO.pickF (by rfl) hb29 (by rfl)) ?_
  refine RS.q rfl (QO.assign) ?_
  refine RS.nil ?_
  refine thenC_n ?_
  refine CS.condF (by rfl) rfl ?_
  refine CS.skip ?_
  refine blockC_n ?_
  refine thenC_n ?_
  refine CS.seq ?_
  refine CS.region ?_
  refine RS.q rfl (QO.assign) ?_
  refine RS.nil ?_
  refine thenC_n ?_
  refine CS.ret ?_
  refine retQ.mk (H' := []) (.inr rfl) (RVs.tmp (by rfl) RVs.nil) (List.nil_sublist _) ?_
  exact ⟨congrArg iv (winE_0 (by omega) (by unfold numW; assumption) (outW_f (nn_F (by assumption)) (nn_F (by assumption)) (nn_F (by assumption)) (nn_F (by assumption)) (nn_F (by assumption))) (by unfold badP; omega) (by assumption) (cnf_c (by omega) (by omega))), rfl⟩

end Go.Proofs.Ytapcgokcfmklbaa

namespace Go.Proofs.Ytapcgokcfmklbaa
open Go Go.RowKit

def and64 (i j : Int) : Int := IntKind.i64.wrap (BitVec.ofInt 64 i &&& BitVec.ofInt 64 j).toNat
section
variable {P : Program} {W : World} {H : HL} {e : Env} {x y : Operand} {t t' ty : TypeId}
theorem QO.and64 {i j : Int} (hx : ev e x = .int .i64 i) (hy : ev e y = .int .i64 j) : QO P W H e (.binOp .and t x y t') ty (.int .i64 (Go.Proofs.Ytapcgokcfmklbaa.and64 i j)) := QO.ibin hx hy (op := .and) trivial
end
/-- the place of a single in the order -/
def plV (v : Nat) : Int := if and64 v 2147483648 ≠ 0 then -(and64 v 2147483647) - 1 else v
end Go.Proofs.Ytapcgokcfmklbaa

namespace Go.Proofs.Ytapcgokcfmklbaa
open Go Go.RowKit

/-- the string of these bytes -/
abbrev sv (l : List UInt8) : Value := .string ⟨l.toArray⟩
/-- bytes as cells -/
def bc (l : List UInt8) : List Value := l.map fun b => Value.int .u8 (b.toNat : Int)
section
variable {P : Program} {W : World} {H : HL} {e : Env} {x y : Operand} {t t' ty : TypeId} {l m : List UInt8}
end
def u8ok (P : Program) (el : TypeId) : Bool := match P.info? el with
  | some i => (match i.zero with | some (.int .u8 0) => true | _ => false) && i.size == 1 && i.bytes == 1
  | none => false
section
variable {P : Program} {W : World} {n : Nat} {ops : Array Oper} {Q : Env → HL → Prop} {rest : List Oper} {e : Env} {H : HL}
variable {d : Tmp} {ty t t2 : TypeId} {pos : String} {af : Array Edge} {x y : Operand} {v : Value}
end
end Go.Proofs.Ytapcgokcfmklbaa

namespace Go.Proofs.Ytapcgokcfmklbaa
open Go Go.RowKit

/-- a field's value -/
inductive Fd where
  | i (z : Int)
  | s (l : List UInt8)
  | f (b : Nat)
  | b (x : Bool)
def Fd.v : Fd → Value
  | .i z => iv z
  | .s l => sv l
  | .f n => flt n
  | .b x => .bool x
def Fd.k : Fd → Nat
  | .i _ => 0
  | .s _ => 1
  | .f _ => 2
  | .b _ => 3
def Fd.eq : Fd → Fd → Bool
  | .i z, .i w => z == w
  | .s l, .s m => l == m
  | .f m, .f n => fcmpB .eql m n
  | .b x, .b y => x == y
  | _, _ => false
def allEq : List Fd → List Fd → Bool
  | [], [] => true
  | a :: l, b :: m => a.eq b && allEq l m
  | _, _ => false
def tyKind (P : Program) (t : TypeId) : Nat :=
  match P.underlying t with
  | some (.int .i64) => 0
  | some .string => 1
  | some (.float .f32) => 2
  | some .bool => 3
  | _ => 9
def mixF (P : Program) : Nat → List Field → List Nat → Bool
  | _, [], [] => true
  | o, f :: fs, k :: ks => f.name != "_" && f.offset == o && tyKind P f.type == k && (match tyChk P f.type with | some ([_], false, _) => true | _ => false) && mixF P (o + 1) fs ks
  | _, _, _ => false
def mixT (P : Program) (t : TypeId) (ks : List Nat) : Bool :=
  match P.underlying t with
  | some (.struct fs) => !P.stoodInHeld t && !P.eqGuardType P.depth t && mixF P 0 fs.toList ks
  | _ => false
section
variable {P : Program} {W : World} {H : HL} {e : Env} {x y : Operand} {t t' ty : TypeId}
theorem equal_nil {w : World} {d : Nat} {el : TypeId} {A : Option Addr} {l c : Nat} (hu : P.underlying t = some (.slice el)) : (Op.equalIn (d + 1) t (.slice A l c) (.slice none 0 0)).run P w = .ok A.isNone w := by
  unfold Op.equalIn
  cases A <;> simp only [Sem.run_bind, run_underlying hu, Result.andThen_ok, Sem.run_pure, Option.isNone]
/-- a slice against nil -/
theorem QO.sliceNil {el : TypeId} {A : Option Addr} {l c : Nat} (hu : P.underlying t = some (.slice el)) (hx : ev e x = .slice A l c) (hy : ev e y = .slice none 0 0) : QO P W H e (.binOp .eql t x y t') ty (.bool A.isNone) := by
  refine QO.bin hx hy (fun w => ?_)
  have h1 : (eqGuard .eql t x y (.slice A l c) (.slice none 0 0)).run P w = .ok () w := by cases A <;> simp [eqGuard]
  have h2 : binOp .eql t (.slice A l c) (.slice none 0 0) = (do pure (.bool (← Op.equalIn 10000 t (.slice A l c) (.slice none 0 0)))) := rfl
  simp only [Sem.run_bind, h1, Result.andThen_ok, h2, equal_nil (P := P) (d := 9999) hu, Sem.run_pure]
end
section
variable {P : Program} {W : World} {n : Nat} {ops : Array Oper} {Q : Env → HL → Prop} {rest : List Oper} {e : Env} {H : HL}
variable {d : Tmp} {ty t : TypeId} {pos : String} {af : Array Edge} {z : List Value} {ag : Bool} {by_ : Nat}
/-- a slice literal of no elements -/
theorem RS.buildSlice0 {el : TypeId} (hd : Nat.blt d n = true) (hu : P.underlying t = some (.slice el)) (he : tyChk P el = some (z, ag, by_))
    (k : ∀ g, RS P W n ops Q rest (put e d (.slice (some ⟨g, 0, none⟩) 0 0)) (⟨g, el, []⟩ :: H)) : RS P W n ops Q (⟨some d, .buildSlice t 0 #[], ty, pos, af, none⟩ :: rest) e H := by
  refine RS.step (d := some d) hd fun w ho => ?_
  refine ⟨_, _, _, ?_, ho.alloc el [], k _⟩
  simp [execOp, Instr.buildSlice, run_underlying hu, run_size he, Instr.fill, newRow]
  exact congrArg (fun a => w.alloc (.cells a el)) (Array.toList_inj.1 (by rw [Array.toList_map, Array.toList_range]; rfl))
end
end Go.Proofs.Ytapcgokcfmklbaa

namespace Go.Proofs.Ytapcgokcfmklbaa
open Go Go.RowKit

theorem PS.src {W : World} {A : Option Addr} {l : List (Int × Int)} (h : PS W A l) (h0 : 0 < l.length) : ∃ b o, A = some ⟨b, o, none⟩ ∧ ∀ j u, (psC l)[j]? = some u → W.cell? ((⟨b, o, none⟩ : Addr).add j) = some u := by
  obtain ⟨b, o, h1, h2⟩ := h h0
  refine ⟨b, o, h1, fun j u hj => ?_⟩
  have hl := (List.getElem?_eq_some_iff.1 hj).1
  rw [psC_len] at hl
  have e := psC_at (l := l) (i := j / 2) (j := j % 2) (by omega) (by omega)
  rw [show 2 * (j / 2) + j % 2 = j by omega, hj] at e
  have := h2 (j / 2) (by omega) (j % 2) u e.symm
  rw [addr_add] at this ⊢
  rw [show o + j / 2 * 2 + j % 2 = o + j by omega] at this
  exact this
theorem psC_one : ∀ l, (psC l).all (·.oneCell') = true
  | [] => rfl
  | p :: l => by
    show (psC (p :: l)).all (·.oneCell') = true
    unfold psC
    simp only [List.all_cons, psC_one l, Bool.and_true, Bool.and_eq_true]
    exact ⟨rfl, rfl⟩
theorem psC_set : ∀ {l : List (Int × Int)} {i j : Nat} {p : Int × Int} {v : Value} {junk : List Value}, i < l.length → j < 2 → ([iv (l.getD i (0, 0)).1, iv (l.getD i (0, 0)).2] : List Value).set j v = [iv p.1, iv p.2] → (psC l ++ junk).set (i * 2 + j) v = psC (l.set i p) ++ junk
  | [], i, _, _, _, _, h, _, _ => absurd h (Nat.not_lt_zero _)
  | a :: l, 0, j, p, v, junk, _, hj, h => by
    have h2 : ([iv a.1, iv a.2] : List Value).set j v = [iv p.1, iv p.2] := h
    show ([iv a.1, iv a.2] ++ (psC l ++ junk)).set (0 * 2 + j) v = [iv p.1, iv p.2] ++ (psC l ++ junk)
    rw [show 0 * 2 + j = j by omega, List.set_append_left _ _ (by show j < 2; exact hj), h2]
  | a :: l, i + 1, j, p, v, junk, hi, hj, h => by
    have ih := psC_set (l := l) (i := i) (junk := junk) (by simpa using hi) hj h
    show ([iv a.1, iv a.2] ++ (psC l ++ junk)).set ((i + 1) * 2 + j) v = [iv a.1, iv a.2] ++ (psC (l.set i p) ++ junk)
    rw [List.set_append_right _ _ (by show 2 ≤ _; omega), ← ih]
    congr 2
    show (i + 1) * 2 + j - 2 = i * 2 + j
    omega
theorem ps_cell {l : List (Int × Int)} {i j : Nat} {v : Value} {junk : List Value} (hi : i < l.length) (hj : ([iv (l.getD i (0, 0)).1, iv (l.getD i (0, 0)).2] : List Value)[j]? = some v) : (psC l ++ junk)[i * 2 + j]? = some v := by
  have hj6 : j < 2 := (List.getElem?_eq_some_iff.1 hj).1
  rw [List.getElem?_append_left (by rw [psC_len]; omega), Nat.mul_comm i 2, psC_at hi hj6]; exact hj
theorem pts_ext {l m : List (Int × Int)} (hl : l.length = m.length) (h : ∀ j, j < l.length → l.getD j (0, 0) = m.getD j (0, 0)) : l = m := by
  apply List.ext_getElem hl
  intro i h1 h2
  have := h i h1
  rwa [List.getD_eq_getElem?_getD, List.getD_eq_getElem?_getD, List.getElem?_eq_getElem h1, List.getElem?_eq_getElem h2] at this
theorem pts_set {l : List (Int × Int)} {i : Nat} {p : Int × Int} (hi : i < l.length) : (l.set i p).getD i (0, 0) = p := by simp [List.getD, hi]
theorem pts_set_ne {l : List (Int × Int)} {i m : Nat} {p : Int × Int} (h : m ≠ i) : (l.set i p).getD m (0, 0) = l.getD m (0, 0) := by
  rw [List.getD_eq_getElem?_getD, List.getElem?_set_ne (fun e => h e.symm), List.getD_eq_getElem?_getD]
/-- the first coordinate of the k-th one changed -/
def ptx (ps : List (Int × Int)) (k : Nat) (x : Int) : List (Int × Int) := ps.set k (x, (ps.getD k (0, 0)).2)
theorem ptx_len (ps : List (Int × Int)) (k : Nat) (x : Int) : (ptx ps k x).length = ps.length := by simp [ptx]
theorem ptx_at {ps : List (Int × Int)} {k : Nat} {x : Int} (h : k < ps.length) : (ptx ps k x).getD k (0, 0) = (x, (ps.getD k (0, 0)).2) := pts_set h
theorem ptx_set {ps : List (Int × Int)} {k : Nat} {x : Int} {junk : List Value} (h : k < ps.length) : (psC ps ++ junk).set (k * 2 + 0) (iv x) = psC (ptx ps k x) ++ junk := psC_set h (by omega) rfl
theorem pty_set {ps : List (Int × Int)} {k : Nat} {x y : Int} {junk : List Value} (h : k < ps.length) : (psC (ptx ps k x) ++ junk).set (k * 2 + 1) (iv y) = psC (ps.set k (x, y)) ++ junk := by
  rw [psC_set (p := (x, y)) (by rw [ptx_len]; exact h) (by omega) (by rw [ptx_at h]; rfl)]
  unfold ptx; rw [List.set_set]
theorem mixPs_set {ps qs : List (Int × Int)} {t k : Nat} (hk : k < ps.length) : (mixPs ps qs t k).set k (mixP (ps.getD k (0, 0)) (qs.getD k (0, 0)) t) = mixPs ps qs t (k + 1) := by
  refine pts_ext (by rw [List.length_set, mixPs_len, mixPs_len]) fun m hm => ?_
  rw [List.length_set, mixPs_len] at hm
  rw [mixPs_at hm]
  by_cases e : m = k
  · subst e
    rw [pts_set (by rw [mixPs_len]; exact hk), if_pos (by omega)]
  · rw [pts_set_ne e, mixPs_at hm]
    by_cases h : m < k
    · rw [if_pos h, if_pos (by omega)]
    · rw [if_neg h, if_neg (by omega)]
theorem mixPs_k {ps qs : List (Int × Int)} {t k : Nat} (hk : k < ps.length) : (mixPs ps qs t k).getD k (0, 0) = ps.getD k (0, 0) := by
  rw [mixPs_at hk, if_neg (by omega)]
theorem movPs_set {ps : List (Int × Int)} {dx dy : Int} {k : Nat} (hk : k < ps.length) : (movPs ps dx dy k).set k (movP (ps.getD k (0, 0)) dx dy) = movPs ps dx dy (k + 1) := by
  refine pts_ext (by rw [List.length_set, movPs_len, movPs_len]) fun m hm => ?_
  rw [List.length_set, movPs_len] at hm
  rw [movPs_at hm]
  by_cases e : m = k
  · subst e
    rw [pts_set (by rw [movPs_len]; exact hk), if_pos (by omega)]
  · rw [pts_set_ne e, movPs_at hm]
    by_cases h : m < k
    · rw [if_pos h, if_pos (by omega)]
    · rw [if_neg h, if_neg (by omega)]
theorem movPs_k {ps : List (Int × Int)} {dx dy : Int} {k : Nat} (hk : k < ps.length) : (movPs ps dx dy k).getD k (0, 0) = ps.getD k (0, 0) := by
  rw [movPs_at hk, if_neg (by omega)]
/-- what is loaded and stored in a round of Between -/
theorem mix_x {ps qs : List (Int × Int)} {t k : Nat} {junk : List Value} (hk : k < ps.length) : (psC (mixPs ps qs t k) ++ junk)[k * 2 + 0]? = some (iv (ps.getD k (0, 0)).1) := ps_cell (by rw [mixPs_len]; exact hk) (by rw [mixPs_k hk]; rfl)
theorem mix_sx {ps qs : List (Int × Int)} {t k : Nat} {junk : List Value} (x : Int) (hk : k < ps.length) : (psC (mixPs ps qs t k) ++ junk).set (k * 2 + 0) (iv x) = psC (ptx (mixPs ps qs t k) k x) ++ junk := ptx_set (by rw [mixPs_len]; exact hk)
theorem mix_y {ps qs : List (Int × Int)} {t k : Nat} {junk : List Value} (x : Int) (hk : k < ps.length) : (psC (ptx (mixPs ps qs t k) k x) ++ junk)[k * 2 + 1]? = some (iv (ps.getD k (0, 0)).2) := ps_cell (by rw [ptx_len, mixPs_len]; exact hk) (by rw [ptx_at (by rw [mixPs_len]; exact hk), mixPs_k hk]; rfl)
theorem mix_sy {ps qs : List (Int × Int)} {t k : Nat} {junk : List Value} (hk : k < ps.length) :
    (psC (ptx (mixPs ps qs t k) k (nearI (lerpV (cvF (ps.getD k (0, 0)).1) (cvF (qs.getD k (0, 0)).1) t))) ++ junk).set (k * 2 + 1) (iv (nearI (lerpV (cvF (ps.getD k (0, 0)).2) (cvF (qs.getD k (0, 0)).2) t))) = psC (mixPs ps qs t (k + 1)) ++ junk := by
  rw [pty_set (by rw [mixPs_len]; exact hk), ← mixPs_set hk]; rfl
theorem mov_x {ps : List (Int × Int)} {dx dy : Int} {k : Nat} {junk : List Value} (hk : k < ps.length) : (psC (movPs ps dx dy k) ++ junk)[k * 2 + 0]? = some (iv (ps.getD k (0, 0)).1) := ps_cell (by rw [movPs_len]; exact hk) (by rw [movPs_k hk]; rfl)
theorem mov_sx {ps : List (Int × Int)} {dx dy : Int} {k : Nat} {junk : List Value} (x : Int) (hk : k < ps.length) : (psC (movPs ps dx dy k) ++ junk).set (k * 2 + 0) (iv x) = psC (ptx (movPs ps dx dy k) k x) ++ junk := ptx_set (by rw [movPs_len]; exact hk)
theorem mov_y {ps : List (Int × Int)} {dx dy : Int} {k : Nat} {junk : List Value} (x : Int) (hk : k < ps.length) : (psC (ptx (movPs ps dx dy k) k x) ++ junk)[k * 2 + 1]? = some (iv (ps.getD k (0, 0)).2) := ps_cell (by rw [ptx_len, movPs_len]; exact hk) (by rw [ptx_at (by rw [movPs_len]; exact hk), movPs_k hk]; rfl)
theorem mov_sy {ps : List (Int × Int)} {dx dy : Int} {k : Nat} {junk : List Value} (hk : k < ps.length) :
    (psC (ptx (movPs ps dx dy k) k ((ps.getD k (0, 0)).1 + dx)) ++ junk).set (k * 2 + 1) (iv ((ps.getD k (0, 0)).2 + dy)) = psC (movPs ps dx dy (k + 1)) ++ junk := by
  rw [pty_set (by rw [movPs_len]; exact hk), ← movPs_set hk]; rfl
/-- points that can be read as long as the blocks handed on stand -/
def OwnP (A : Option Addr) (l : List (Int × Int)) (H : HL) : Prop := ∀ W w, Own W w H → PS w A l
theorem OwnP.nil {A : Option Addr} {H : HL} : OwnP A [] H := fun _ _ _ h => absurd h (Nat.not_lt_zero _)
theorem OwnP.blk {g t : Nat} {l : List (Int × Int)} {junk : List Value} : OwnP (some ⟨g, 0, none⟩) l [⟨g, t, psC l ++ junk⟩] := fun _ _ ho => PS.blk ho (List.mem_cons_self ..)
theorem OwnP.at_ {A : Option Addr} {l : List (Int × Int)} {H H' : HL} {W w : World} (h : OwnP A l H) (ho : Own W w H') (hs : Sbp H H') : PS w A l := h W w (ho.sbp hs)
theorem Sbp.right {H K : HL} : ∀ {L : HL}, Sbp H K → Sbp H (L ++ K)
  | [], h => h
  | _ :: _, h => .skip (Sbp.right h)
/-- points of an argument, or of a block handed on -/
theorem PS.nil {w : World} {A : Option Addr} : PS w A [] := fun h => absurd h (Nat.not_lt_zero _)
section
variable {P : Program} {W : World} {n : Nat} {ops : Array Oper} {Q : Env → HL → Prop} {rest : List Oper} {e : Env} {H : HL}
variable {d : Tmp} {ty t : TypeId} {pos : String} {af : Array Edge} {x y : Operand} {z : List Value} {ag : Bool} {by_ : Nat}
/-- nothing appended to an empty slice of the call's own -/
theorem QO.append0 {el : TypeId} {g c : Nat} {A : Option Addr} (hu : P.underlying t = some (.slice el)) (he : tyChk P el = some (z, ag, by_)) (hx : ev e x = .slice (some ⟨g, 0, none⟩) 0 0) (hy : ev e y = .slice A 0 c) :
    QO P W H e (.call ⟨.builtin .append, #[x, y], #[t, t]⟩) ty (.slice (some ⟨g, 0, none⟩) 0 0) := fun d pos af gd w ho => by
  obtain ⟨i, zv, ds, hi, _⟩ := (tyF he).ex
  have h1 : (Builtin.append_ #[t, t] ty #[.slice (some ⟨g, 0, none⟩) 0 0, .slice A 0 c]).run P w = .ok (.slice (some ⟨g, 0, none⟩) 0 0) w := by
    cases A <;> simp [Builtin.append_, run_underlying hu, sizeOf, typeInfo, hi, Builtin.lenOf, Builtin.firstCells, storeCells, loadCells, loadCellsFrom]
  simp only [execOp, resolve, invoke, builtin, Sem.run_bind, Sem.run_pure, Result.andThen_ok, List.map_toArray, List.map_cons, List.map_nil, hx, hy, h1]
end
end Go.Proofs.Ytapcgokcfmklbaa

namespace Go.Proofs.Ytapcgokcfmklbaa
open Go Go.Proofs Go.RowKit

theorem eqt31 : intsT Try.prog 31 = 2 := by kernel_rfl

set_option maxRecDepth 100000 in
theorem cloneN (c : Nat) (W : World) : Fn_ Try.prog 88 #[.slice none 0 c] W (fun v H => v = .slice none 0 0 ∧ H = []) := by
  refine Fn_.intro Try.func88 rfl rfl (by rfl) ?_
  refine CS.seq ?_
  refine CS.region ?_
  refine RS.q rfl (QO.assign) ?_
  refine RS.nil ?_
  refine thenC_n ?_
  refine CS.seq ?_
  refine CS.seq ?_
  refine CS.region ?_
  refine RS.q rfl (QO.move) ?_
  refine RS.q rfl (QO.sliceNil Try.underlying59 (by rfl) (by rfl)) ?_
  refine RS.nil ?_
  refine thenC_n ?_
  refine CS.condT (by rfl) rfl ?_
  refine CS.seq ?_
  refine CS.region ?_
  refine RS.q rfl (QO.assign) ?_
  refine RS.nil ?_
  refine thenC_n ?_
  refine CS.ret ?_
  refine thenC_r ?_
  refine retQ.mk (H' := []) (.inr rfl) (RVs.tmp (by rfl) RVs.nil) (List.nil_sublist _) ?_
  exact ⟨rfl, rfl⟩

set_option maxRecDepth 100000 in
theorem cloneS (a : Addr) (c : Nat) (W : World) : Fn_ Try.prog 88 #[.slice (some a) 0 c] W (fun v H => ∃ A2 c2, v = .slice A2 0 c2 ∧ H = []) := by
  refine Fn_.intro Try.func88 rfl rfl (by rfl) ?_
  refine CS.seq ?_
  refine CS.region ?_
  refine RS.q rfl (QO.assign) ?_
  refine RS.nil ?_
  refine thenC_n ?_
  refine CS.seq ?_
  refine CS.seq ?_
  refine CS.region ?_
  refine RS.q rfl (QO.move) ?_
  refine RS.q rfl (QO.sliceNil Try.underlying59 (by rfl) (by rfl)) ?_
  refine RS.nil ?_
  refine thenC_n ?_
  refine CS.condF (by rfl) rfl ?_
  refine CS.skip ?_
  refine thenC_n ?_
  refine CS.seq ?_
  refine CS.region ?_
  refine RS.buildSlice0 rfl Try.underlying59 ty31 ?_
  intro g5
  refine RS.q rfl (QO.move) ?_
  refine RS.q rfl (QO.append0 (A := some a) (c := c) Try.underlying59 ty31 (by rfl) (by rfl)) ?_
  refine RS.q rfl (QO.assign) ?_
  refine RS.nil ?_
  refine thenC_n ?_
  refine CS.ret ?_
  refine retQ.mk (H' := []) (.inr rfl) (RVs.tmp (by rfl) RVs.nil) (List.nil_sublist _) ?_
  exact ⟨_, _, rfl, rfl⟩

set_option maxRecDepth 100000 in
theorem cloneP (A : Option Addr) (c : Nat) (l : List (Int × Int)) (W : World) (hA : PS W A l) (h0 : 0 < l.length) (hm : l.length ≤ 500) : Fn_ Try.prog 88 #[.slice A l.length c] W (fun v H => ∃ g cap junk, v = .slice (some ⟨g, 0, none⟩) l.length cap ∧ H = [⟨g, 31, psC l ++ junk⟩] ∧ l.length ≤ cap ∧ cap ≤ maxLen) := by
  obtain ⟨bA, oA, rfl, hsrc⟩ := hA.src (by omega)
  refine Fn_.intro Try.func88 rfl rfl (by rfl) ?_
  refine CS.seq ?_
  refine CS.region ?_
  refine RS.q rfl (QO.assign) ?_
  refine RS.nil ?_
  refine thenC_n ?_
  refine CS.seq ?_
  refine CS.seq ?_
  refine CS.region ?_
  refine RS.q rfl (QO.move) ?_
  refine RS.q rfl (QO.sliceNil Try.underlying59 (by rfl) (by rfl)) ?_
  refine RS.nil ?_
  refine thenC_n ?_
  refine CS.condF (by rfl) rfl ?_
  refine CS.skip ?_
  refine thenC_n ?_
  refine CS.seq ?_
  refine CS.region ?_
  refine RS.buildSlice0 rfl Try.underlying59 ty31 ?_
  intro g5
  refine RS.q rfl (QO.move) ?_
  refine RS.appendRow rfl Try.underlying59 ty31 (by rfl) (Row.own (el := 31) (g := g5) (xs := []) (junk := []) rfl rfl (Nat.le_refl 0) (Nat.zero_le _)) (by repeat (first | exact Suf.base | apply Suf.cons)) (a := ⟨bA, oA, none⟩) (news := psC l) (by rfl) (.inl hsrc) (by rw [psC_len, Nat.mul_comm]; rfl) (psC_one l) (by decide) (by omega) (by unfold maxLen; omega) (by omega) ?_
  intro v7 H7 hrow7
  have hx1 := hrow7.some (by omega)
  obtain ⟨gl, cp, jk, hv7, hH7, hcp, hcpx, hln⟩ := hx1
  rw [Nat.zero_add] at hv7 hcp
  subst hv7 hH7
  refine RS.q rfl (QO.assign) ?_
  refine RS.nil ?_
  refine thenC_n ?_
  refine CS.ret ?_
  refine retQ.mk (H' := [⟨gl, 31, [] ++ psC l ++ jk⟩]) (.inr rfl) (RVs.tmp (by rfl) RVs.nil) (by repeat (first | exact List.Sublist.refl _ | exact List.nil_sublist _ | refine List.Sublist.cons_cons _ ?_ | refine List.Sublist.cons _ ?_ | exact Sbp.refl | exact Sbp.nil | refine Sbp.cons (by repeat (first | exact Rem.head | apply Rem.tail)) ?_ | exact Sbp.app | refine Sbp.skip ?_)) ?_
  exact ⟨gl, cp, jk, rfl, rfl, hcp, hcpx⟩

theorem cloneE (A : Option Addr) (c : Nat) (W : World) : Fn_ Try.prog 88 #[.slice A 0 c] W (fun v H => ∃ A2 c2, v = .slice A2 0 c2 ∧ H = []) := by
  cases A with
  | none => exact (cloneN c W).mono fun v H h => ⟨none, 0, h.1, h.2⟩
  | some a => exact cloneS a c W
theorem ne_pt (p q : Int × Int) : ([p.1, p.2] != [q.1, q.2]) = !decide (p = q) := by
  obtain ⟨a, b⟩ := p
  obtain ⟨c, d⟩ := q
  by_cases h : a = c <;> by_cases h2 : b = d <;> simp [h, h2]

set_option maxRecDepth 100000 in
theorem equalP (A A2 : Option Addr) (c c2 : Nat) (l m : List (Int × Int)) (W : World) (hA : PS W A l) (hA2 : PS W A2 m) (hm : l.length ≤ maxLen) : Fn_ Try.prog 75 #[.slice A l.length c, .slice A2 m.length c2] W (fun v H => v = .bool (decide (l = m)) ∧ H = []) := by
  unfold maxLen at hm
  refine Fn_.intro Try.func75 rfl rfl (by rfl) ?_
  refine CS.seq ?_
  refine CS.region ?_
  refine RS.q rfl (QO.assign) ?_
  refine RS.nil ?_
  refine thenC_n ?_
  refine CS.seq ?_
  refine CS.seq ?_
  refine CS.region ?_
  refine RS.q rfl (QO.move) ?_
  refine RS.q rfl (QO.lenS Try.underlying59 (by rfl)) ?_
  refine RS.q rfl (QO.move) ?_
  refine RS.q rfl (QO.lenS Try.underlying59 (by rfl)) ?_
  refine RS.q rfl (QO.neq (by rfl) (by rfl)) ?_
  refine RS.nil ?_
  refine thenC_n ?_
  refine CS.cond (by rfl) (fun hb0 => ?_) (fun hb0 => ?_)
  · have hb0p := bne_iff_ne.1 hb0
    refine CS.seq ?_
    refine CS.region ?_
    refine RS.q rfl (QO.assign) ?_
    refine RS.nil ?_
    refine thenC_n ?_
    refine CS.ret ?_
    refine thenC_r ?_
    refine retQ.mk (H' := []) (.inr rfl) (RVs.tmp (by rfl) RVs.nil) (List.nil_sublist _) ?_
    exact ⟨congrArg Value.bool (decide_eq_false (fun h => by rw [h] at hb0p; exact hb0p rfl)).symm, rfl⟩
  · have hb0p := of_bne_false hb0
    refine CS.skip ?_
    refine thenC_n ?_
    refine CS.seq ?_
    refine CS.seq ?_
    refine CS.region ?_
    refine RS.q rfl (QO.move) ?_
    refine RS.q rfl (QO.lenS Try.underlying59 (by rfl)) ?_
    refine RS.q rfl (QO.move) ?_
    refine RS.nil ?_
    refine thenC_n ?_
    refine CS.block ?_
    refine CS.loop (X := Nat) (4 :: 5 :: 13 :: 14 :: 15 :: 16 :: 17 :: 18 :: 19 :: 20 :: 21 :: 22 :: 23 :: 24 :: 25 :: []) (fun k => [(13, iv (k : Int))]) (fun k => []) (fun k => k ≤ l.length ∧ ∀ j, j < k → l.getD j (0, 0) = m.getD j (0, 0)) (fun k => l.length - k) 0 ⟨Nat.zero_le _, fun j h => absurd h (Nat.not_lt_zero _)⟩ ?_ ?_ ?_
    · exact (by repeat (first | exact kn_nil | refine kn_cons (by rfl) ?_))
    · exact (by repeat (first | exact List.Sublist.refl _ | exact List.nil_sublist _ | refine List.Sublist.cons_cons _ ?_ | refine List.Sublist.cons _ ?_ | exact Sbp.refl | exact Sbp.nil | refine Sbp.cons (by repeat (first | exact Rem.head | apply Rem.tail)) ?_ | exact Sbp.app | refine Sbp.skip ?_))
    · intro k gj4 hz
      obtain ⟨hk, hall⟩ := hz
      have hlen : (l.length : Int) = (m.length : Int) := by assumption
      refine CS.seq ?_
      refine CS.region ?_
      refine RS.q rfl (QO.lss (by rfl) (by rfl)) ?_
      refine RS.nil ?_
      refine thenC_n ?_
      refine CS.seq ?_
      refine CS.cond (by rfl) (fun hb1 => ?_) (fun hb1 => ?_)
      · have hb1p := of_decide_eq_true hb1
        refine CS.skip ?_
        refine thenC_n ?_
        refine CS.seq ?_
        refine CS.block ?_
        refine CS.seq ?_
        refine CS.region ?_
        refine RS.q rfl (QO.move) ?_
        refine RS.q rfl (QO.assign) ?_
        refine RS.nil ?_
        refine thenC_n ?_
        refine CS.seq ?_
        refine CS.draw 9 rfl (by kernel_rfl) (by kernel_rfl) ?_
        have hx1 := hA (show 0 < l.length by omega)
        obtain ⟨bA, oA, e1, hc1⟩ := hx1
        subst e1
        have hd1 := hc1 k (by omega)
        have hx2 := hA2 (show 0 < m.length by omega)
        obtain ⟨bB, oB, e2, hc2⟩ := hx2
        subst e2
        have hd2 := hc2 k (by omega)
        refine RT.take (i := 0) rfl (by kernel_rfl) rfl (QO.move) ?_
        refine RT.take (i := 1) rfl (by kernel_rfl) rfl (QO.move) ?_
        refine RT.take (i := 2) rfl (by kernel_rfl) rfl (QO.idx Try.underlying59 ty31 (by rfl) (by rfl) (by omega) (by omega)) ?_
        refine RT.take (i := 3) rfl (by kernel_rfl) rfl (QO.loadOA ty31 (vs := [iv (l.getD k (0, 0)).1, iv (l.getD k (0, 0)).2]) (by rfl) hd1 (by rfl)) ?_
        refine RT.take (i := 4) rfl (by kernel_rfl) rfl (QO.move) ?_
        refine RT.take (i := 5) rfl (by kernel_rfl) rfl (QO.move) ?_
        refine RT.take (i := 6) rfl (by kernel_rfl) rfl (QO.idx Try.underlying59 ty31 (by rfl) (by rfl) (by omega) (by omega)) ?_
        refine RT.take (i := 7) rfl (by kernel_rfl) rfl (QO.loadOA ty31 (vs := [iv (m.getD k (0, 0)).1, iv (m.getD k (0, 0)).2]) (by rfl) hd2 (by rfl)) ?_
        refine RT.takev (i := 8) rfl (by kernel_rfl) rfl (QO.sneq (zs := [(l.getD k (0, 0)).1, (l.getD k (0, 0)).2]) (ws := [(m.getD k (0, 0)).1, (m.getD k (0, 0)).2]) eqt31 (by decide) (by rfl) (by rfl) rfl rfl) (congrArg Value.bool (ne_pt (l.getD k (0, 0)) (m.getD k (0, 0)))) ?_
        refine RT.done (by kernel_rfl) ?_
        refine thenC_n ?_
        refine CS.cond (by rfl) (fun hb2 => ?_) (fun hb2 => ?_)
        · have hb2p := Eq.mp (Bool.not_eq_true' _) hb2
          refine CS.seq ?_
          refine CS.region ?_
          refine RS.q rfl (QO.assign) ?_
          refine RS.nil ?_
          refine thenC_n ?_
          refine CS.ret ?_
          refine blockC_r ?_
          refine thenC_r ?_
          refine loopQ_r ?_
          refine blockC_r ?_
          refine thenC_r ?_
          refine retQ.mk (H' := []) (.inr rfl) (RVs.tmp (by rfl) RVs.nil) (List.nil_sublist _) ?_
          exact ⟨congrArg Value.bool (decide_eq_false (fun h => of_decide_eq_false hb2p (by rw [h]))).symm, rfl⟩
        · have hb2p := Eq.mp (Bool.not_eq_false' _) hb2
          refine CS.skip ?_
          refine blockC_n ?_
          refine thenC_n ?_
          refine CS.region ?_
          first | (refine RS.q rfl (QO.add (by rfl) (by rfl) (by omega) (by omega)) ?_) | (refine RS.q rfl (QO.ibin (by rfl) (by rfl) trivial) ?_)
          refine RS.q rfl (QO.move) ?_
          refine RS.nil ?_
          refine loopQ_n (by intro t ht; repeat (first | with_reducible exact rfl | exact frame_puts ht (frame_mix ht) _ rfl | (refine frame_put rfl ht ?_) | (refine frame_puts ht ?_ _ rfl) | exact frame_mix ht | (refine frame_mix2 rfl ht ?_) | exact rfl)) ?_
          exact ⟨k + 1, ⟨by omega, fun j hj => by
              by_cases e : j = k
              · subst e; exact of_decide_eq_true hb2p
              · exact hall j (by omega)⟩, by omega, (by repeat (first | exact kn_nil | refine kn_cons (by rfl) ?_)), (by repeat (first | exact List.Sublist.refl _ | exact List.nil_sublist _ | refine List.Sublist.cons_cons _ ?_ | refine List.Sublist.cons _ ?_ | exact Sbp.refl | exact Sbp.nil | refine Sbp.cons (by repeat (first | exact Rem.head | apply Rem.tail)) ?_ | exact Sbp.app | refine Sbp.skip ?_))⟩
      · have hb1p := of_decide_eq_false hb1
        refine CS.exit ?_
        refine thenC_x ?_
        refine loopQ_x ?_
        refine blockC_x ?_
        refine thenC_n ?_
        refine CS.seq ?_
        refine CS.region ?_
        refine RS.q rfl (QO.assign) ?_
        refine RS.nil ?_
        refine thenC_n ?_
        refine CS.ret ?_
        refine retQ.mk (H' := []) (.inr rfl) (RVs.tmp (by rfl) RVs.nil) (List.nil_sublist _) ?_
        exact ⟨congrArg Value.bool (decide_eq_true (pts_ext (by omega) (fun j hj => hall j (by omega)))).symm, rfl⟩

end Go.Proofs.Ytapcgokcfmklbaa

namespace Go.Proofs.Ytapcgokcfmklbaa
open Go Go.RowKit

section
variable {P : Program} {W : World} {H : HL} {e : Env} {x y : Operand} {t t' ty : TypeId}
theorem QO.bneq {i j : Bool} (hu : P.underlying t = some .bool) (hx : ev e x = .bool i) (hy : ev e y = .bool j) : QO P W H e (.binOp .neq t x y t') ty (.bool (i != j)) := by
  refine QO.bin hx hy (fun w => ?_)
  simp only [Sem.run_bind, eqg_bool, Result.andThen_ok]
  simp only [binOp]
  simp [run_equal_bool w t i j hu, bne]
end
section
variable {W : World} {b o : Nat} {l : List KF}
theorem KS.at2 (h : KS W (some ⟨b, o, none⟩) l) {i : Nat} (hi : i < l.length) {j : Nat} {v : Value} (hj : (kfC (l.getD i default))[j]? = some v) : W.cell? ⟨b, o + i * 10 + j, none⟩ = some v := by
  obtain ⟨b', o', e1, h1, _⟩ := h.at_ hi
  injection e1 with e2
  injection e2 with e3 e4
  subst e3 e4
  have := h1 j v hj
  rwa [addr_add] at this
theorem KS.ok (h : KS W (some ⟨b, o, none⟩) l) {i : Nat} (hi : i < l.length) : okWin W (l.getD i default).win (l.getD i default).A := by
  obtain ⟨b', o', e1, _, h2⟩ := h.at_ hi
  exact h2
theorem KS.isS {A : Option Addr} (h : KS W A l) (h0 : 0 < l.length) : ∃ b o, A = Option.some ⟨b, o, none⟩ := by
  obtain ⟨b, o, h1, _⟩ := h h0
  exact ⟨b, o, h1⟩
/-- a key frame as a whole -/
theorem KS.whole (h : KS W (Option.some ⟨b, o, none⟩) l) {i : Nat} (hi : i < l.length) {q : Nat} (hq : q = o + i * 10) : ∀ j v, (kfC (l.getD i default))[j]? = Option.some v → W.cell? ((⟨b, q, none⟩ : Addr).add j) = Option.some v := fun j v hj => by
  rw [addr_add, hq]; exact h.at2 hi hj
/-- its window -/
theorem KS.win (h : KS W (Option.some ⟨b, o, none⟩) l) {i : Nat} (hi : i < l.length) {q : Nat} (hq : q = o + i * 10 + 2) : ∀ j v, (winC (l.getD i default).win (l.getD i default).A (l.getD i default).c)[j]? = Option.some v → W.cell? ((⟨b, q, none⟩ : Addr).add j) = Option.some v := fun j v hj => by
  rw [addr_add, hq, show o + i * 10 + 2 + j = o + i * 10 + (j + 2) by omega]; exact h.at2 hi (by unfold kfC; simpa using hj)
/-- its frame -/
theorem KS.frame (h : KS W (Option.some ⟨b, o, none⟩) l) {i : Nat} (hi : i < l.length) {q : Nat} (hq : q = o + i * 10) : W.cell? ⟨b, q, none⟩ = Option.some (iv (l.getD i default).frame) := by
  rw [hq]; exact h.at2 (j := 0) hi rfl
end
theorem firstE_suc {l : List KF} {k : Nat} (h : firstE (frE1 l) k = 0) (h2 : frE1 l k = 0) : firstE (frE1 l) (k + 1) = 0 := firstE_go h h2
theorem no3 {p q r : Prop} (h1 : ¬ p) (h2 : ¬ q) (h3 : ¬ r) : ¬ (p ∨ q ∨ r) := fun h => h.elim h1 fun h => h.elim h2 h3
theorem first3 {a b c : Int} : firstE (fun i => ([a, b, c] : List Int).getD i 0) 3 = if a ≠ 0 then a else if b ≠ 0 then b else c := by
  show (if _ then _ else _) = _
  simp [firstE]
  split <;> simp_all
end Go.Proofs.Ytapcgokcfmklbaa

namespace Go.Proofs.Ytapcgokcfmklbaa
open Go Go.Proofs Go.RowKit

theorem ty4 : tyChk Try.prog 4 = some ([.bool false], false, 1) := by kernel_rfl
theorem ty61 : tyChk Try.prog 61 = some ([.int .i64 0, .float .f32 0, .float .f32 0, .float .f32 0, .float .f32 0, .float .f32 0, .slice none 0 0, .bool false], true, 64) := by kernel_rfl
theorem fo61_7 : fldOff Try.prog 61 7 = some (7, 4) := by kernel_rfl
theorem ok75 : callOK Try.prog 75 = true := by kernel_rfl
theorem ok88 : callOK Try.prog 88 = true := by kernel_rfl

theorem cloneE1 (A : Option Addr) (c : Nat) (l : List (Int × Int)) (W : World) (h : l = []) : Fn_ Try.prog 88 #[.slice A l.length c] W (fun v H => ∃ A2 c2, v = .slice A2 l.length c2 ∧ H = []) := by
  subst h; exact cloneE A c W
theorem equalP_T (A A2 : Option Addr) (c c2 : Nat) (l : List (Int × Int)) (W : World) (hA : PS W A l) (hA2 : PS W A2 l) (hm : l.length ≤ maxLen) : Fn_ Try.prog 75 #[.slice A l.length c, .slice A2 l.length c2] W (fun v H => v = .bool true ∧ H = []) :=
  (equalP A A2 c c2 l l W hA hA2 hm).mono fun v H h => ⟨by rw [h.1]; exact congrArg Value.bool (decide_eq_true rfl), h.2⟩

set_option maxRecDepth 100000 in
theorem clonedE (u : Win) (A : Option Addr) (c : Nat) (W : World) (he : u.pts = []) : Fn_ Try.prog 70 #[.agg #[iv u.kind, flt u.x, flt u.y, flt u.w, flt u.h, flt u.soft, .slice A u.pts.length c, .bool u.out]] W (fun v H => ∃ A2 c2, v = .agg #[iv u.kind, flt u.x, flt u.y, flt u.w, flt u.h, flt u.soft, .slice A2 u.pts.length c2, .bool u.out] ∧ H = []) := by
  refine Fn_.intro Try.func70 rfl rfl (by rfl) ?_
  refine CS.seq ?_
  refine CS.region ?_
  refine RS.box rfl (by rfl) (by rfl) ?_
  intro g1
  refine RS.alloc rfl ty61 ?_
  intro g2
  refine RS.nil ?_
  refine thenC_n ?_
  refine CS.seq ?_
  refine CS.region ?_
  refine RS.q rfl (QO.fieldAddr fo61_6 (by rfl)) ?_
  first | (refine RS.q rfl (QO.load ty59 (by rfl) (by repeat (first | exact List.Mem.head _ | refine List.Mem.tail _ ?_)) (by rfl)) ?_) | (refine RS.q rfl (QO.loadO ty59 (by rfl) (by assumption)) ?_) | (refine RS.q rfl (QO.load ty59 (by rfl) (by repeat (first | exact List.Mem.head _ | refine List.Mem.tail _ ?_)) (by assumption)) ?_)
  refine RS.call rfl (by rfl) ok88 (by rfl) (fun w ho => cloneE1 A c u.pts _ he) ?_
  rintro _ _ ⟨A2, c2, rfl, rfl⟩
  refine RS.q rfl (QO.fieldAddr fo61_6 (by rfl)) ?_
  refine RS.store1 ty59 rfl (by rfl) (by rfl) (by rfl) (by repeat (first | exact Upd.head | apply Upd.tail)) (by first | (simp; done) | (simp; omega) | omega) ?_
  refine RS.nil ?_
  refine thenC_n ?_
  refine CS.seq ?_
  refine CS.region ?_
  first | (refine RS.q rfl (QO.loadB ty61 (by rfl) (by repeat (first | exact List.Mem.head _ | refine List.Mem.tail _ ?_)) (by rfl)) ?_) | (refine RS.q rfl (QO.loadA ty61 (by rfl) (by repeat (first | exact List.Mem.head _ | refine List.Mem.tail _ ?_)) (by rfl) (by rfl)) ?_) | (refine RS.q rfl (QO.loadOA ty61 (by rfl) (by assumption) (by rfl)) ?_)
  first | refine RS.storeB ty61 (by rfl) (by rfl) (by rfl) (by rfl) (by rfl) (by repeat (first | exact Upd.head | apply Upd.tail)) (by rfl) ?_ | refine RS.storeP ty61 (by rfl) (by rfl) (by rfl) (by rfl) (by rfl) (by repeat (first | exact Upd.head | apply Upd.tail)) (by rfl) ?_
  refine RS.nil ?_
  refine thenC_n ?_
  refine CS.ret ?_
  refine retQ.mk (H' := []) (.inr rfl) (RVs.cellA ty61 (by rfl) (by repeat (first | exact List.Mem.head _ | refine List.Mem.tail _ ?_)) (by rfl) RVs.nil) (List.nil_sublist _) ?_
  exact ⟨A2, c2, rfl, rfl⟩

set_option maxRecDepth 100000 in
theorem clonedP (u : Win) (A : Option Addr) (c : Nat) (W : World) (hA : PS W A u.pts) (h0 : 0 < u.pts.length) (hm : u.pts.length ≤ 500) : Fn_ Try.prog 70 #[.agg #[iv u.kind, flt u.x, flt u.y, flt u.w, flt u.h, flt u.soft, .slice A u.pts.length c, .bool u.out]] W (fun v H => ∃ g cap junk, v = .agg #[iv u.kind, flt u.x, flt u.y, flt u.w, flt u.h, flt u.soft, .slice (some ⟨g, 0, none⟩) u.pts.length cap, .bool u.out] ∧ H = [⟨g, 31, psC u.pts ++ junk⟩] ∧ u.pts.length ≤ cap ∧ cap ≤ maxLen) := by
  refine Fn_.intro Try.func70 rfl rfl (by rfl) ?_
  refine CS.seq ?_
  refine CS.region ?_
  refine RS.box rfl (by rfl) (by rfl) ?_
  intro g1
  refine RS.alloc rfl ty61 ?_
  intro g2
  refine RS.nil ?_
  refine thenC_n ?_
  refine CS.seq ?_
  refine CS.region ?_
  refine RS.q rfl (QO.fieldAddr fo61_6 (by rfl)) ?_
  first | (refine RS.q rfl (QO.load ty59 (by rfl) (by repeat (first | exact List.Mem.head _ | refine List.Mem.tail _ ?_)) (by rfl)) ?_) | (refine RS.q rfl (QO.loadO ty59 (by rfl) (by assumption)) ?_) | (refine RS.q rfl (QO.load ty59 (by rfl) (by repeat (first | exact List.Mem.head _ | refine List.Mem.tail _ ?_)) (by assumption)) ?_)
  refine RS.call rfl (by rfl) ok88 (by rfl) (fun w ho => cloneP A c u.pts _ (hA.own ho) h0 hm) ?_
  rintro _ _ ⟨gl, cp, jk, rfl, rfl, hcp, hcpx⟩
  refine RS.q rfl (QO.fieldAddr fo61_6 (by rfl)) ?_
  refine RS.store1 ty59 rfl (by rfl) (by rfl) (by rfl) (by repeat (first | exact Upd.head | apply Upd.tail)) (by first | (simp; done) | (simp; omega) | omega) ?_
  refine RS.nil ?_
  refine thenC_n ?_
  refine CS.seq ?_
  refine CS.region ?_
  first | (refine RS.q rfl (QO.loadB ty61 (by rfl) (by repeat (first | exact List.Mem.head _ | refine List.Mem.tail _ ?_)) (by rfl)) ?_) | (refine RS.q rfl (QO.loadA ty61 (by rfl) (by repeat (first | exact List.Mem.head _ | refine List.Mem.tail _ ?_)) (by rfl) (by rfl)) ?_) | (refine RS.q rfl (QO.loadOA ty61 (by rfl) (by assumption) (by rfl)) ?_)
  first | refine RS.storeB ty61 (by rfl) (by rfl) (by rfl) (by rfl) (by rfl) (by repeat (first | exact Upd.head | apply Upd.tail)) (by rfl) ?_ | refine RS.storeP ty61 (by rfl) (by rfl) (by rfl) (by rfl) (by rfl) (by repeat (first | exact Upd.head | apply Upd.tail)) (by rfl) ?_
  refine RS.nil ?_
  refine thenC_n ?_
  refine CS.ret ?_
  refine retQ.mk (H' := [⟨gl, 31, psC u.pts ++ jk⟩]) (.inr rfl) (RVs.cellA ty61 (by rfl) (by repeat (first | exact List.Mem.head _ | refine List.Mem.tail _ ?_)) (by rfl) RVs.nil) (by repeat (first | exact List.Sublist.refl _ | exact List.nil_sublist _ | refine List.Sublist.cons_cons _ ?_ | refine List.Sublist.cons _ ?_ | exact Sbp.refl | exact Sbp.nil | refine Sbp.cons (by repeat (first | exact Rem.head | apply Rem.tail)) ?_ | exact Sbp.app | refine Sbp.skip ?_)) ?_
  exact ⟨gl, cp, jk, rfl, rfl, hcp, hcpx⟩

theorem clonedO (u : Win) (A : Option Addr) (c : Nat) (W : World) (hA : PS W A u.pts) (hm : u.pts.length ≤ 500) : Fn_ Try.prog 70 #[.agg #[iv u.kind, flt u.x, flt u.y, flt u.w, flt u.h, flt u.soft, .slice A u.pts.length c, .bool u.out]] W (fun v H => ∃ A2 c2, v = .agg #[iv u.kind, flt u.x, flt u.y, flt u.w, flt u.h, flt u.soft, .slice A2 u.pts.length c2, .bool u.out] ∧ OwnP A2 u.pts H) := by
  rcases Nat.eq_zero_or_pos u.pts.length with h | h
  · have he := List.eq_nil_of_length_eq_zero h
    refine (clonedE u A c W he).mono fun v H h => ?_
    obtain ⟨A2, c2, h1, _⟩ := h
    exact ⟨A2, c2, h1, he ▸ OwnP.nil⟩
  · refine (clonedP u A c W hA h hm).mono fun v H h => ?_
    obtain ⟨g, cap, junk, h1, h2, _⟩ := h
    exact ⟨_, _, h1, h2 ▸ OwnP.blk⟩

set_option maxRecDepth 100000 in
theorem sameWin (u : Win) (A A2 : Option Addr) (c c2 : Nat) (W : World) (hA : PS W A u.pts) (hA2 : PS W A2 u.pts) (hm : u.pts.length ≤ maxLen) : Fn_ Try.prog 26 #[.agg #[iv u.kind, flt u.x, flt u.y, flt u.w, flt u.h, flt u.soft, .slice A u.pts.length c, .bool u.out], .agg #[iv u.kind, flt u.x, flt u.y, flt u.w, flt u.h, flt u.soft, .slice A2 u.pts.length c2, .bool u.out]] W (fun v H => v = .bool true ∧ H = []) := by
  refine Fn_.intro Try.func26 rfl rfl (by rfl) ?_
  refine CS.seq ?_
  refine CS.region ?_
  refine RS.box rfl (by rfl) (by rfl) ?_
  intro g2
  refine RS.box rfl (by rfl) (by rfl) ?_
  intro g3
  refine RS.q rfl (QO.assign) ?_
  refine RS.nil ?_
  refine thenC_n ?_
  refine CS.seq ?_
  refine CS.region ?_
  refine RS.q rfl (QO.fieldAddr fo61_0 (by rfl)) ?_
  first | (refine RS.q rfl (QO.load ty3 (by rfl) (by repeat (first | exact List.Mem.head _ | refine List.Mem.tail _ ?_)) (by rfl)) ?_) | (refine RS.q rfl (QO.loadO ty3 (by rfl) (by assumption)) ?_) | (refine RS.q rfl (QO.load ty3 (by rfl) (by repeat (first | exact List.Mem.head _ | refine List.Mem.tail _ ?_)) (by assumption)) ?_)
  refine RS.q rfl (QO.fieldAddr fo61_0 (by rfl)) ?_
  first | (refine RS.q rfl (QO.load ty3 (by rfl) (by repeat (first | exact List.Mem.head _ | refine List.Mem.tail _ ?_)) (by rfl)) ?_) | (refine RS.q rfl (QO.loadO ty3 (by rfl) (by assumption)) ?_) | (refine RS.q rfl (QO.load ty3 (by rfl) (by repeat (first | exact List.Mem.head _ | refine List.Mem.tail _ ?_)) (by assumption)) ?_)
  refine RS.qv rfl (QO.eql (by rfl) (by rfl)) (congrArg Value.bool (beq_self_eq_true _)) ?_
  refine RS.q rfl (QO.move) ?_
  refine RS.on (dj := 10) rfl (congrArg Value.bool rfl) ?_
  refine RS.q rfl (QO.fieldAddr fo61_7 (by rfl)) ?_
  refine RS.on (dj := 10) rfl (congrArg Value.bool rfl) ?_
  first | (refine RS.q rfl (QO.load ty4 (by rfl) (by repeat (first | exact List.Mem.head _ | refine List.Mem.tail _ ?_)) (by rfl)) ?_) | (refine RS.q rfl (QO.loadO ty4 (by rfl) (by assumption)) ?_) | (refine RS.q rfl (QO.load ty4 (by rfl) (by repeat (first | exact List.Mem.head _ | refine List.Mem.tail _ ?_)) (by assumption)) ?_)
  refine RS.on (dj := 10) rfl (congrArg Value.bool rfl) ?_
  refine RS.q rfl (QO.fieldAddr fo61_7 (by rfl)) ?_
  refine RS.on (dj := 10) rfl (congrArg Value.bool rfl) ?_
  first | (refine RS.q rfl (QO.load ty4 (by rfl) (by repeat (first | exact List.Mem.head _ | refine List.Mem.tail _ ?_)) (by rfl)) ?_) | (refine RS.q rfl (QO.loadO ty4 (by rfl) (by assumption)) ?_) | (refine RS.q rfl (QO.load ty4 (by rfl) (by repeat (first | exact List.Mem.head _ | refine List.Mem.tail _ ?_)) (by assumption)) ?_)
  refine RS.on (dj := 10) rfl (congrArg Value.bool rfl) ?_
  refine RS.qv rfl (QO.beql Try.underlying4 (by rfl) (by rfl)) (congrArg Value.bool (beq_self_eq_true _)) ?_
  refine RS.q rfl (QO.pickT (by rfl) rfl (by rfl)) ?_
  refine RS.q rfl (QO.move) ?_
  refine RS.on (dj := 17) rfl (congrArg Value.bool rfl) ?_
  refine RS.q rfl (QO.fieldAddr fo61_6 (by rfl)) ?_
  refine RS.on (dj := 17) rfl (congrArg Value.bool rfl) ?_
  first | (refine RS.q rfl (QO.load ty59 (by rfl) (by repeat (first | exact List.Mem.head _ | refine List.Mem.tail _ ?_)) (by rfl)) ?_) | (refine RS.q rfl (QO.loadO ty59 (by rfl) (by assumption)) ?_) | (refine RS.q rfl (QO.load ty59 (by rfl) (by repeat (first | exact List.Mem.head _ | refine List.Mem.tail _ ?_)) (by assumption)) ?_)
  refine RS.on (dj := 17) rfl (congrArg Value.bool rfl) ?_
  refine RS.q rfl (QO.fieldAddr fo61_6 (by rfl)) ?_
  refine RS.on (dj := 17) rfl (congrArg Value.bool rfl) ?_
  first | (refine RS.q rfl (QO.load ty59 (by rfl) (by repeat (first | exact List.Mem.head _ | refine List.Mem.tail _ ?_)) (by rfl)) ?_) | (refine RS.q rfl (QO.loadO ty59 (by rfl) (by assumption)) ?_) | (refine RS.q rfl (QO.load ty59 (by rfl) (by repeat (first | exact List.Mem.head _ | refine List.Mem.tail _ ?_)) (by assumption)) ?_)
  refine RS.on (dj := 17) rfl (congrArg Value.bool rfl) ?_
  refine RS.call rfl (by rfl) ok75 (by rfl) (fun w ho => equalP_T A A2 c c2 u.pts _ (hA.own ho) (hA2.own ho) hm) ?_
  rintro _ _ ⟨rfl, rfl⟩
  refine RS.q rfl (QO.pickT (by rfl) rfl (by rfl)) ?_
  refine RS.q rfl (QO.move) ?_
  refine RS.on (dj := 24) rfl (congrArg Value.bool rfl) ?_
  refine RS.q rfl (QO.fieldAddr fo61_1 (by rfl)) ?_
  refine RS.on (dj := 24) rfl (congrArg Value.bool rfl) ?_
  first | (refine RS.q rfl (QO.load ty29 (by rfl) (by repeat (first | exact List.Mem.head _ | refine List.Mem.tail _ ?_)) (by rfl)) ?_) | (refine RS.q rfl (QO.loadO ty29 (by rfl) (by assumption)) ?_) | (refine RS.q rfl (QO.load ty29 (by rfl) (by repeat (first | exact List.Mem.head _ | refine List.Mem.tail _ ?_)) (by assumption)) ?_)
  refine RS.on (dj := 24) rfl (congrArg Value.bool rfl) ?_
  refine RS.q rfl (QO.fieldAddr fo61_1 (by rfl)) ?_
  refine RS.on (dj := 24) rfl (congrArg Value.bool rfl) ?_
  first | (refine RS.q rfl (QO.load ty29 (by rfl) (by repeat (first | exact List.Mem.head _ | refine List.Mem.tail _ ?_)) (by rfl)) ?_) | (refine RS.q rfl (QO.loadO ty29 (by rfl) (by assumption)) ?_) | (refine RS.q rfl (QO.load ty29 (by rfl) (by repeat (first | exact List.Mem.head _ | refine List.Mem.tail _ ?_)) (by assumption)) ?_)
  refine RS.on (dj := 24) rfl (congrArg Value.bool rfl) ?_
  refine RS.call rfl (by rfl) ok20 (by rfl) (fun w ho => exact_true u.x u.x rfl _) ?_
  rintro _ _ ⟨rfl, rfl⟩
  refine RS.q rfl (QO.pickT (by rfl) rfl (by rfl)) ?_
  refine RS.q rfl (QO.move) ?_
  refine RS.on (dj := 31) rfl (congrArg Value.bool rfl) ?_
  refine RS.q rfl (QO.fieldAddr fo61_2 (by rfl)) ?_
  refine RS.on (dj := 31) rfl (congrArg Value.bool rfl) ?_
  first | (refine RS.q rfl (QO.load ty29 (by rfl) (by repeat (first | exact List.Mem.head _ | refine List.Mem.tail _ ?_)) (by rfl)) ?_) | (refine RS.q rfl (QO.loadO ty29 (by rfl) (by assumption)) ?_) | (refine RS.q rfl (QO.load ty29 (by rfl) (by repeat (first | exact List.Mem.head _ | refine List.Mem.tail _ ?_)) (by assumption)) ?_)
  refine RS.on (dj := 31) rfl (congrArg Value.bool rfl) ?_
  refine RS.q rfl (QO.fieldAddr fo61_2 (by rfl)) ?_
  refine RS.on (dj := 31) rfl (congrArg Value.bool rfl) ?_
  first | (refine RS.q rfl (QO.load ty29 (by rfl) (by repeat (first | exact List.Mem.head _ | refine List.Mem.tail _ ?_)) (by rfl)) ?_) | (refine RS.q rfl (QO.loadO ty29 (by rfl) (by assumption)) ?_) | (refine RS.q rfl (QO.load ty29 (by rfl) (by repeat (first | exact List.Mem.head _ | refine List.Mem.tail _ ?_)) (by assumption)) ?_)
  refine RS.on (dj := 31) rfl (congrArg Value.bool rfl) ?_
  refine RS.call rfl (by rfl) ok20 (by rfl) (fun w ho => exact_true u.y u.y rfl _) ?_
  rintro _ _ ⟨rfl, rfl⟩
  refine RS.q rfl (QO.pickT (by rfl) rfl (by rfl)) ?_
  refine RS.q rfl (QO.move) ?_
  refine RS.on (dj := 38) rfl (congrArg Value.bool rfl) ?_
  refine RS.q rfl (QO.fieldAddr fo61_3 (by rfl)) ?_
  refine RS.on (dj := 38) rfl (congrArg Value.bool rfl) ?_
  first | (refine RS.q rfl (QO.load ty29 (by rfl) (by repeat (first | exact List.Mem.head _ | refine List.Mem.tail _ ?_)) (by rfl)) ?_) | (refine RS.q rfl (QO.loadO ty29 (by rfl) (by assumption)) ?_) | (refine RS.q rfl (QO.load ty29 (by rfl) (by repeat (first | exact List.Mem.head _ | refine List.Mem.tail _ ?_)) (by assumption)) ?_)
  refine RS.on (dj := 38) rfl (congrArg Value.bool rfl) ?_
  refine RS.q rfl (QO.fieldAddr fo61_3 (by rfl)) ?_
  refine RS.on (dj := 38) rfl (congrArg Value.bool rfl) ?_
  first | (refine RS.q rfl (QO.load ty29 (by rfl) (by repeat (first | exact List.Mem.head _ | refine List.Mem.tail _ ?_)) (by rfl)) ?_) | (refine RS.q rfl (QO.loadO ty29 (by rfl) (by assumption)) ?_) | (refine RS.q rfl (QO.load ty29 (by rfl) (by repeat (first | exact List.Mem.head _ | refine List.Mem.tail _ ?_)) (by assumption)) ?_)
  refine RS.on (dj := 38) rfl (congrArg Value.bool rfl) ?_
  refine RS.call rfl (by rfl) ok20 (by rfl) (fun w ho => exact_true u.w u.w rfl _) ?_
  rintro _ _ ⟨rfl, rfl⟩
  refine RS.q rfl (QO.pickT (by rfl) rfl (by rfl)) ?_
  refine RS.q rfl (QO.move) ?_
  refine RS.on (dj := 45) rfl (congrArg Value.bool rfl) ?_
  refine RS.q rfl (QO.fieldAddr fo61_4 (by rfl)) ?_
  refine RS.on (dj := 45) rfl (congrArg Value.bool rfl) ?_
  first | (refine RS.q rfl (QO.load ty29 (by rfl) (by repeat (first | exact List.Mem.head _ | refine List.Mem.tail _ ?_)) (by rfl)) ?_) | (refine RS.q rfl (QO.loadO ty29 (by rfl) (by assumption)) ?_) | (refine RS.q rfl (QO.load ty29 (by rfl) (by repeat (first | exact List.Mem.head _ | refine List.Mem.tail _ ?_)) (by assumption)) ?_)
  refine RS.on (dj := 45) rfl (congrArg Value.bool rfl) ?_
  refine RS.q rfl (QO.fieldAddr fo61_4 (by rfl)) ?_
  refine RS.on (dj := 45) rfl (congrArg Value.bool rfl) ?_
  first | (refine RS.q rfl (QO.load ty29 (by rfl) (by repeat (first | exact List.Mem.head _ | refine List.Mem.tail _ ?_)) (by rfl)) ?_) | (refine RS.q rfl (QO.loadO ty29 (by rfl) (by assumption)) ?_) | (refine RS.q rfl (QO.load ty29 (by rfl) (by repeat (first | exact List.Mem.head _ | refine List.Mem.tail _ ?_)) (by assumption)) ?_)
  refine RS.on (dj := 45) rfl (congrArg Value.bool rfl) ?_
  refine RS.call rfl (by rfl) ok20 (by rfl) (fun w ho => exact_true u.h u.h rfl _) ?_
  rintro _ _ ⟨rfl, rfl⟩
  refine RS.q rfl (QO.pickT (by rfl) rfl (by rfl)) ?_
  refine RS.q rfl (QO.move) ?_
  refine RS.on (dj := 52) rfl (congrArg Value.bool rfl) ?_
  refine RS.q rfl (QO.fieldAddr fo61_5 (by rfl)) ?_
  refine RS.on (dj := 52) rfl (congrArg Value.bool rfl) ?_
  first | (refine RS.q rfl (QO.load ty29 (by rfl) (by repeat (first | exact List.Mem.head _ | refine List.Mem.tail _ ?_)) (by rfl)) ?_) | (refine RS.q rfl (QO.loadO ty29 (by rfl) (by assumption)) ?_) | (refine RS.q rfl (QO.load ty29 (by rfl) (by repeat (first | exact List.Mem.head _ | refine List.Mem.tail _ ?_)) (by assumption)) ?_)
  refine RS.on (dj := 52) rfl (congrArg Value.bool rfl) ?_
  refine RS.q rfl (QO.fieldAddr fo61_5 (by rfl)) ?_
  refine RS.on (dj := 52) rfl (congrArg Value.bool rfl) ?_
  first | (refine RS.q rfl (QO.load ty29 (by rfl) (by repeat (first | exact List.Mem.head _ | refine List.Mem.tail _ ?_)) (by rfl)) ?_) | (refine RS.q rfl (QO.loadO ty29 (by rfl) (by assumption)) ?_) | (refine RS.q rfl (QO.load ty29 (by rfl) (by repeat (first | exact List.Mem.head _ | refine List.Mem.tail _ ?_)) (by assumption)) ?_)
  refine RS.on (dj := 52) rfl (congrArg Value.bool rfl) ?_
  refine RS.call rfl (by rfl) ok20 (by rfl) (fun w ho => exact_true u.soft u.soft rfl _) ?_
  rintro _ _ ⟨rfl, rfl⟩
  refine RS.q rfl (QO.pickT (by rfl) rfl (by rfl)) ?_
  refine RS.q rfl (QO.assign) ?_
  refine RS.nil ?_
  refine thenC_n ?_
  refine CS.ret ?_
  refine retQ.mk (H' := []) (.inr rfl) (RVs.tmp (by rfl) RVs.nil) (List.nil_sublist _) ?_
  exact ⟨rfl, rfl⟩

end Go.Proofs.Ytapcgokcfmklbaa
