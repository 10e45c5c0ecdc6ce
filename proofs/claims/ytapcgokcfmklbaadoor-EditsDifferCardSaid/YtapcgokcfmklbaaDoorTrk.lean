/-
  Plain law of a pattern that is sought: its differences from itself, moved. Conversions of floats. No program in sight. Conditions: none.
-/
import Derived.Test.YtapcgokcfmklbaaDoorMatte
namespace Go.Proofs.YtapcgokcfmklbaaDoor
open Go Go.RowKit

section
variable {P : Program} {W : World} {H : HL} {e : Env} {x : Operand} {t t' ty : TypeId}
theorem QO.conv_ff {s k : FloatKind} {v d : Nat} (hu : (P.underlying t).isSome = true) (hu' : P.underlying t' = some (.float k)) (hx : ev e x = .float s v) (h : floatToFloatBits s v k = some d) : QO P W H e (.convert t t' x) ty (.float k d) := fun d' pos af gd w _ => by
  have h1 := run_convert_float_float (P := P) (w := w) t t' s k v d hu hu' h
  simp only [execOp, hx, Sem.run_bind, Sem.run_pure]
  simp [h1]
end
/-- the magnitude of a double, in bits -/
def absN (d : Nat) : Nat := (IntKind.u64.wrap ((BitVec.ofInt 64 (d : Int) &&& ~~~ BitVec.ofInt 64 9223372036854775808).toNat : Int)).toNat
def absF (r : Nat) : Option Nat := (floatToFloatBits .f32 r .f64).bind fun d => floatToFloatBits .f64 (absN d) .f32
theorem absF_some {r s : Nat} (h : absF r = some s) : ∃ d, floatToFloatBits .f32 r .f64 = some d ∧ floatToFloatBits .f64 (absN d) .f32 = some s := by
  unfold absF at h
  exact Option.bind_eq_some_iff.1 h
/-- the pattern -/
def pat (i : Nat) : Nat := cvF (((i * i * 7 + i * 13) % 251 + i : Nat) : Int)
theorem pat_add : ∀ i : Nat, i < 324 → fop .add (cvF (((i * i * 7 + i * 13) % 251 : Nat) : Int)) (cvF (i : Int)) = some (pat i) := by decide +kernel
def difR (u v : Nat) : Option Nat := (fop .sub u v).bind absF
/-- how far two singles differ -/
def dif (u v : Nat) : Nat := if cl u = cl v then 0 else cl ((difR u v).getD 0)
theorem dif_T {u v r : Nat} (hne : ((cl u : Nat) : Int) ≠ ((cl v : Nat) : Int)) (h : FR (fop .sub u v) r) (hs : (difR u v).isSome = true) : ∃ s, absF r = some s ∧ cl s = dif u v := by
  unfold difR at hs
  cases hr : fop .sub u v with
  | none => rw [hr] at hs; cases hs
  | some r' =>
    rw [hr] at h hs
    have h1 : r = r' := h
    subst h1
    obtain ⟨s, hs'⟩ := Option.isSome_iff_exists.1 hs
    refine ⟨s, hs', ?_⟩
    unfold dif difR
    rw [if_neg (fun e => hne (by rw [e])), hr]
    have : (some r).bind absF = some s := hs'
    rw [this]; rfl
theorem dif_F {u v : Nat} (he : ((cl u : Nat) : Int) = ((cl v : Nat) : Int)) : 0 = dif u v := by
  unfold dif
  rw [if_pos (by omega)]
def cmpF (p q t : Nat) : Nat := dif (pat (4 * ((3 + t / 9) * 9 + 3 + t / 3 % 3) + t % 3)) (pat (4 * ((1 + q + t / 9) * 9 + 1 + p + t / 3 % 3) + t % 3))
def cmpL (p q n : Nat) : List Nat := (List.range n).map (cmpF p q)
theorem cmpL_succ (p q n : Nat) : cmpL p q (n + 1) = cmpL p q n ++ [cmpF p q n] := by simp [cmpL, List.range_succ]
theorem cmpL_len (p q n : Nat) : (cmpL p q n).length = n := by simp [cmpL]
theorem cmpF_at {p q i j c : Nat} (hi : i < 3) (hc : c < 3) : cmpF p q ((j * 3 + i) * 3 + c) = dif (pat (4 * ((3 + j) * 9 + 3 + i) + c)) (pat (4 * ((1 + q + j) * 9 + 1 + p + i) + c)) := by
  unfold cmpF
  have h1 : ((j * 3 + i) * 3 + c) / 9 = j := by omega
  have h2 : ((j * 3 + i) * 3 + c) / 3 % 3 = i := by omega
  have h3 : ((j * 3 + i) * 3 + c) % 3 = c := by omega
  rw [h1, h2, h3]
theorem dif_ok0 : ∀ p : Nat, p < 5 → ∀ q : Nat, q < 5 → ∀ j : Nat, j < 3 → ∀ i : Nat, i < 3 → ∀ c : Nat, c < 3 → (difR (pat (4 * ((3 + j) * 9 + 3 + i) + c)) (pat (4 * ((1 + q + j) * 9 + 1 + p + i) + c))).isSome = true := by decide +kernel
/-- how far the pattern differs from itself, moved -/
def cmpR (p q : Nat) : Nat := fo .quo (sum (cmpL p q 27)) (cvF 27)
theorem cmpR_all : ∀ p : Nat, p < 5 → ∀ q : Nat, q < 5 → nan32 (cmpR p q) = false ∧ (p = 2 ∧ q = 2 → cmpR p q = 0) ∧ (¬ (p = 2 ∧ q = 2) → fcmpB .lss 0 (cmpR p q) = true ∧ fcmpB .lss (cmpR p q) 0 = false) := by decide +kernel
structure TS where
  fnd : Bool
  bx : Int
  bz : Int
  ls : Nat
/-- what is known behind k places, the right one being the k0-th -/
def TInv (k0 : Nat) (dx dz : Int) (k : Nat) (s : TS) : Prop :=
  (k ≤ k0 → s.fnd = decide (0 < k) ∧ (0 < k → fcmpB .lss 0 s.ls = true)) ∧ (k0 < k → s.fnd = true ∧ s.bx = dx ∧ s.bz = dz ∧ s.ls = 0)
theorem TInv.start (k0 : Nat) (dx dz : Int) (s : TS) (h : s.fnd = false) : TInv k0 dx dz 0 s := ⟨fun _ => ⟨h, fun h => by omega⟩, fun h => by omega⟩
theorem TInv.step {px py qx qy k : Nat} {s : TS} (hpx : px < 3) (hpy : py < 3) (hqx : qx < 3) (hqy : qy < 3) (hk : k = 3 * qy + qx) (h : TInv (3 * py + px) ((px : Int) - 1) ((py : Int) - 1) k s) :
    ((!s.fnd) = true ∨ fcmpB .lss (cmpR (qx + 2 - px) (qy + 2 - py)) s.ls = true → TInv (3 * py + px) ((px : Int) - 1) ((py : Int) - 1) (k + 1) ⟨true, (qx : Int) - 1, (qy : Int) - 1, cmpR (qx + 2 - px) (qy + 2 - py)⟩) ∧
    ((!s.fnd) = false → fcmpB .lss (cmpR (qx + 2 - px) (qy + 2 - py)) s.ls = false → TInv (3 * py + px) ((px : Int) - 1) ((py : Int) - 1) (k + 1) s) := by
  obtain ⟨c1, c2, c3⟩ := cmpR_all (qx + 2 - px) (by omega) (qy + 2 - py) (by omega)
  obtain ⟨h1, h2⟩ := h
  refine ⟨fun hu => ⟨fun hk1 => ⟨?_, fun _ => ?_⟩, fun hk1 => ?_⟩, fun hf hu => ⟨fun hk1 => ⟨?_, fun _ => ?_⟩, fun hk1 => ?_⟩⟩
  · exact (decide_eq_true (by omega)).symm
  · exact (c3 (by omega)).1
  · rcases Nat.lt_or_ge (3 * py + px) k with h9 | h9
    · exfalso
      obtain ⟨e1, _, _, e4⟩ := h2 h9
      rw [e1, e4] at hu
      rcases hu with hu | hu
      · cases hu
      · rw [(c3 (by omega)).2] at hu; cases hu
    · have e : qx = px ∧ qy = py := by omega
      refine ⟨rfl, ?_, ?_, c2 (by omega)⟩
      · show (qx : Int) - 1 = _; omega
      · show (qy : Int) - 1 = _; omega
  · have := (h1 (by omega)).1
    rw [decide_eq_true (by omega)]
    cases hs : s.fnd
    · rw [hs] at hf; cases hf
    · rfl
  · rcases Nat.eq_zero_or_pos k with h0 | h0
    · exfalso
      have := (h1 (by omega)).1
      rw [h0] at this
      rw [this] at hf; cases hf
    · exact (h1 (by omega)).2 h0
  · rcases Nat.lt_or_ge (3 * py + px) k with h9 | h9
    · exact h2 h9
    · exfalso
      have e : qx + 2 - px = 2 ∧ qy + 2 - py = 2 := by omega
      rw [c2 e] at hu
      rcases Nat.eq_zero_or_pos k with h0 | h0
      · have := (h1 (by omega)).1
        rw [h0] at this
        rw [this] at hf; cases hf
      · rw [(h1 (by omega)).2 h0] at hu; cases hu
theorem TInv.done {px py : Nat} {dx dz : Int} {s : TS} (hpx : px < 3) (hpy : py < 3) (h : TInv (3 * py + px) dx dz 9 s) : s.fnd = true ∧ s.bx = dx ∧ s.bz = dz ∧ s.ls = 0 := h.2 (by omega)
theorem third (d : Int) : ∃ p : Nat, p < 3 ∧ (d.tmod 3 + 3).tmod 3 - 1 = (p : Int) - 1 ∧ -2 ≤ d.tmod 3 ∧ d.tmod 3 ≤ 2 ∧ 0 ≤ (d.tmod 3 + 3).tmod 3 ∧ (d.tmod 3 + 3).tmod 3 ≤ 2 := by
  have h1 : -2 ≤ d.tmod 3 ∧ d.tmod 3 ≤ 2 := by
    rw [Int.tmod_eq_emod]; split <;> omega
  have h2 : (d.tmod 3 + 3).tmod 3 = (d.tmod 3 + 3) % 3 := Int.tmod_eq_emod_of_nonneg (by omega)
  exact ⟨((d.tmod 3 + 3).tmod 3).toNat, by omega, by omega, h1.1, h1.2, by omega, by omega⟩
end Go.Proofs.YtapcgokcfmklbaaDoor
