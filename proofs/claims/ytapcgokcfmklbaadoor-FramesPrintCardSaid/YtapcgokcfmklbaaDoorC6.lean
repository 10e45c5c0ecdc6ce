/-
  Contracts: ChangesAreBounded. Conditions: as each theorem says.
-/
import Derived.Test.YtapcgokcfmklbaaDoorC5
namespace Go.Proofs.YtapcgokcfmklbaaDoor
open Go Go.Proofs Go.RowKit

theorem pl31 : places Tryd.prog 31 = some #[(0, 1), (1, 1), (2, 1), (3, 1)] := by kernel_rfl
theorem ok155 : callOK Tryd.prog 155 = true := by kernel_rfl

set_option maxRecDepth 100000 in
theorem bitsOf (x : Nat) (W : World) : Fn_ Tryd.prog 155 #[flt x] W (fun v H => v = .int .u32 (cl x : Nat) ∧ H = []) := by
  refine Fn_.intro Tryd.func155 rfl rfl (by rfl) ?_
  refine CS.seq ?_
  refine CS.region ?_
  refine RS.q rfl (QO.assign) ?_
  refine RS.nil ?_
  refine thenC_n ?_
  refine CS.seq ?_
  refine CS.region ?_
  refine RS.q rfl (QO.move) ?_
  refine RS.call rfl (by rfl) ok161 (by rfl) (fun w ho => fix _ _) ?_
  rintro _ _ ⟨rfl, rfl⟩
  refine RS.q rfl (QO.ext (by rfl) (ext70 _)) ?_
  refine RS.q rfl (QO.assign) ?_
  refine RS.nil ?_
  refine thenC_n ?_
  refine CS.ret ?_
  refine retQ.mk (H' := []) (.inr rfl) (RVs.tmp (by rfl) RVs.nil) (List.nil_sublist _) ?_
  exact ⟨rfl, rfl⟩

/-- is the first region inside the second -/
def insB (ax ay aw ah bx bz bw bh : Int) : Bool := decide (bx ≤ ax ∧ bz ≤ ay ∧ ax ≤ bx + bw - aw ∧ ay ≤ bz + bh - ah)
def smallI (x : Int) : Prop := -4611686018427387904 ≤ x ∧ x ≤ 2305843009213693952

theorem two_at (x y wi he : Int) (A A' : Option Addr) (n n' c c' k : Nat) (h : k < 2) : (([iv x, iv y, iv wi, iv he, Value.slice A n c, iv x, iv y, iv wi, iv he, Value.slice A' n' c'] : List Value).drop (((k : Nat) : Int).toNat * 5)).take 5 =
    [iv x, iv y, iv wi, iv he, .slice (if k = 0 then A else A') (if k = 0 then n else n') (if k = 0 then c else c')] := by
  match k, h with
  | 0, _ => rfl
  | 1, _ => rfl

/-- a frame brought to another region -/
def likeV (xs : List Nat) (N : Nat) : List Nat := (List.range N).map fun i => xs.getD (i % xs.length) 0
theorem likeV_len (xs : List Nat) (N : Nat) : (likeV xs N).length = N := by simp [likeV]

/-- do the first k numbers of pixel i agree -/
def sameK (ys zs : List Nat) (i k : Nat) : Bool := (List.range k).all fun c => ((cl (ys.getD (4 * i + c) 0) : Nat) : Int) == (cl (zs.getD (4 * i + c) 0) : Nat)
theorem sameK_T {ys zs : List Nat} {i k : Nat} (h : sameK ys zs i k = true) : (((cl (ys.getD (4 * i + k) 0) : Nat) : Int) == (cl (zs.getD (4 * i + k) 0) : Nat)) = sameK ys zs i (k + 1) := by
  unfold sameK at h ⊢
  rw [List.range_succ, List.all_append, h]
  simp
theorem sameK_F {ys zs : List Nat} {i k : Nat} (h : sameK ys zs i k = false) : false = sameK ys zs i (k + 1) := by
  unfold sameK at h ⊢
  rw [List.range_succ, List.all_append, h]
  simp
/-- how many of the first m pixels differ -/
def cnt (ys zs : List Nat) : Nat → Nat
  | 0 => 0
  | m + 1 => cnt ys zs m + if sameK ys zs m 4 then 0 else 1
theorem cnt_same {ys zs : List Nat} {m : Nat} (h : sameK ys zs m 4 = true) : cnt ys zs m = cnt ys zs (m + 1) := by simp [cnt, h]
theorem cnt_diff {ys zs : List Nat} {m : Nat} (h : sameK ys zs m 4 = false) : cnt ys zs m + 1 = cnt ys zs (m + 1) := by simp [cnt, h]
theorem cnt_le (ys zs : List Nat) : ∀ m, cnt ys zs m ≤ m
  | 0 => Nat.le_refl _
  | m + 1 => by
    have := cnt_le ys zs m
    unfold cnt
    split <;> omega
theorem cnt_zero {ys zs : List Nat} : ∀ {m : Nat}, cnt ys zs m = 0 → ∀ i, i < m → sameK ys zs i 4 = true
  | 0, _, _, h => absurd h (Nat.not_lt_zero _)
  | m + 1, h, i, hi => by
    unfold cnt at h
    by_cases e : i = m
    · subst e
      split at h
      · assumption
      · omega
    · exact cnt_zero (m := m) (by omega) i (by omega)
theorem tdiv_cast (a b : Nat) : (a : Int).tdiv (b : Int) = ((a / b : Nat) : Int) := by simp [Int.tdiv]
/-- the box holds every pixel that differs -/
def boxOK (ys zs : List Nat) (a : Nat) (k : Nat) (L T R B : Int) : Prop := ∀ i, i < k → sameK ys zs i 4 = false → L ≤ ((i % a : Nat) : Int) ∧ T ≤ ((i / a : Nat) : Int) ∧ ((i % a : Nat) : Int) + 1 ≤ R ∧ ((i / a : Nat) : Int) + 1 ≤ B
theorem boxOK_same {ys zs : List Nat} {a k : Nat} {L T R B : Int} (h : boxOK ys zs a k L T R B) (hs : sameK ys zs k 4 = true) : boxOK ys zs a (k + 1) L T R B := fun i hi hd => by
  by_cases e : i = k
  · subst e; rw [hs] at hd; cases hd
  · exact h i (by omega) hd
theorem boxOK_diff {ys zs : List Nat} {a k : Nat} {L T R B : Int} (h : boxOK ys zs a k L T R B) : boxOK ys zs a (k + 1) (min L ((k % a : Nat) : Int)) (min T ((k / a : Nat) : Int)) (max R (((k % a : Nat) : Int) + 1)) (max B (((k / a : Nat) : Int) + 1)) := fun i hi hd => by
  by_cases e : i = k
  · subst e; exact ⟨Int.min_le_right _ _, Int.min_le_right _ _, Int.le_max_right _ _, Int.le_max_right _ _⟩
  · obtain ⟨h1, h2, h3, h4⟩ := h i (by omega) hd
    exact ⟨Int.le_trans (Int.min_le_left _ _) h1, Int.le_trans (Int.min_le_left _ _) h2, Int.le_trans h3 (Int.le_max_left _ _), Int.le_trans h4 (Int.le_max_left _ _)⟩
theorem min_bd {L : Int} {q : Nat} (h : 0 ≤ L ∧ L ≤ 8) : 0 ≤ min L (q : Int) ∧ min L (q : Int) ≤ 8 := by omega
theorem max_bd {R : Int} {q : Nat} (h : 0 ≤ R ∧ R ≤ 8) (hq : q < 8) : 0 ≤ max R ((q : Int) + 1) ∧ max R ((q : Int) + 1) ≤ 8 := by omega
theorem insB_box {X Y L T R B : Int} {q r : Nat} (h : L ≤ q ∧ T ≤ r ∧ (q : Int) + 1 ≤ R ∧ (r : Int) + 1 ≤ B) : insB (X + q) (Y + r) 1 1 (X + L) (Y + T) (R - L) (B - T) = true := decide_eq_true (by omega)
theorem div_lt_of {i a b : Nat} (ha : 1 ≤ a) (h : i < a * b) : i / a < b := by rw [Nat.div_lt_iff_lt_mul ha, Nat.mul_comm]; exact h

end Go.Proofs.YtapcgokcfmklbaaDoor
