/-
  Plain functions: the first error of a row; bands of colours; stripes; integers as floats. No program in sight. Conditions: none.
-/
import Derived.Test.YtapcgokcfmklbaaDoorNum
import Derived.Test.YtapcgokcfmklbaaDoorTile
namespace Go.Proofs.YtapcgokcfmklbaaDoor
open Go Go.RowKit

/-- the first error of n things -/
def firstE (f : Nat → Int) : Nat → Int
  | 0 => 0
  | n + 1 => if firstE f n ≠ 0 then firstE f n else f n
theorem firstE_go {f : Nat → Int} {k : Nat} (h : firstE f k = 0) (h2 : f k = 0) : firstE f (k + 1) = 0 := by
  unfold firstE; rw [if_neg (by simpa using h)]; exact h2
theorem firstE_at {f : Nat → Int} {k : Nat} (h : firstE f k = 0) (h2 : f k ≠ 0) : ∀ {n : Nat}, k < n → firstE f n = f k
  | 0, hk => absurd hk (Nat.not_lt_zero _)
  | n + 1, hk => by
    unfold firstE
    by_cases e : k = n
    · subst e; rw [if_neg (by simpa using h)]
    · rw [firstE_at h h2 (n := n) (by omega), if_pos h2]
/-- what is wrong with bands: five numbers each -/
def bandE (xs : List Nat) (i : Nat) : Int := if numB (xs.getD (5 * i) 0) = false then 2 else if 0 < i ∧ fcmpB .gtr (xs.getD (5 * i) 0) (xs.getD (5 * (i - 1)) 0) = false then 8 else 0
def bandsE (xs : List Nat) (n : Nat) : Int := if n = 0 then 10 else if 32 < n then 4 else firstE (bandE xs) n
theorem bandE_2 {xs : List Nat} {i : Nat} (h : numB (xs.getD (5 * i) 0) = false) : bandE xs i = 2 := if_pos h
theorem bandE_8 {xs : List Nat} {i : Nat} (h : numB (xs.getD (5 * i) 0) = true) (h0 : 0 < i) (h2 : fcmpB .gtr (xs.getD (5 * i) 0) (xs.getD (5 * (i - 1)) 0) = false) : bandE xs i = 8 := by
  unfold bandE; rw [if_neg (by rw [h]; decide), if_pos ⟨h0, h2⟩]
theorem bandE_0 {xs : List Nat} {i : Nat} (h : numB (xs.getD (5 * i) 0) = true) (h0 : 0 < i → fcmpB .gtr (xs.getD (5 * i) 0) (xs.getD (5 * (i - 1)) 0) = true) : bandE xs i = 0 := by
  unfold bandE; rw [if_neg (by rw [h]; decide), if_neg]
  intro hh
  rw [h0 hh.1] at hh
  exact absurd hh.2 (by decide)
theorem bandsE_n {xs : List Nat} {n : Nat} (h : ¬ n = 0) (h2 : ¬ 32 < n) : bandsE xs n = firstE (bandE xs) n := by unfold bandsE; rw [if_neg h, if_neg h2]
/-- the colour of a luma -/
def fourF (a b c d : Nat) : Nat → Nat
  | 0 => a
  | 1 => b
  | 2 => c
  | _ => d
def falseQ (xs : List Nat) (l a : Nat) : Nat → Nat → Nat
  | 0 => fourF l l l a
  | k + 1 => if fcmpB .leq (xs.getD (5 * k) 0) l then fun c => xs.getD (5 * k + 1 + c) 0 else falseQ xs l a k
theorem falseQ_T {xs : List Nat} {l a k : Nat} (h : fcmpB .leq (xs.getD (5 * k) 0) l = true) : falseQ xs l a (k + 1) = fun c => xs.getD (5 * k + 1 + c) 0 := if_pos h
theorem falseQ_F {xs : List Nat} {l a k : Nat} (h : fcmpB .leq (xs.getD (5 * k) 0) l = false) : falseQ xs l a (k + 1) = falseQ xs l a k := if_neg (by rw [h]; decide)
theorem band_at {W : World} {b o : Nat} {xs : List Nat} {k : Nat} (hcell : ∀ (i x : Nat), xs[i]? = some x → W.cell? ⟨b, o + i, none⟩ = some (flt x)) (hk : 5 * k + 5 ≤ xs.length) :
    ∀ (j : Nat) (v : Value), [flt (xs.getD (5 * k) 0), flt (xs.getD (5 * k + 1) 0), flt (xs.getD (5 * k + 2) 0), flt (xs.getD (5 * k + 3) 0), flt (xs.getD (5 * k + 4) 0)][j]? = some v → W.cell? ((⟨b, o + ((k : Nat) : Int).toNat * 5, none⟩ : Addr).add j) = some v := by
  intro j v hj
  have hj5 : j < 5 := (List.getElem?_eq_some_iff.1 hj).1
  have h1 : v = flt (xs.getD (5 * k + j) 0) := by
    match j, hj5 with
    | 0, _ => exact (Option.some.inj hj).symm
    | 1, _ => exact (Option.some.inj hj).symm
    | 2, _ => exact (Option.some.inj hj).symm
    | 3, _ => exact (Option.some.inj hj).symm
    | 4, _ => exact (Option.some.inj hj).symm
  rw [addr_add, h1, Int.toNat_natCast, Nat.add_assoc, Nat.mul_comm]
  exact hcell _ _ (by rw [List.getElem?_eq_getElem (by omega), getD_at])
/-- stripes -/
def zebQ (x y wd : Int) (lv : Nat) (l : Nat) (q : Nat → Nat) : Nat → Nat := if fcmpB .geq l lv then (if (x + y) / wd % 2 = 0 then fourF 1065353216 1065353216 1065353216 (q 3) else fourF 0 0 0 (q 3)) else q
theorem zebQ_F {x y wd : Int} {lv l : Nat} {q : Nat → Nat} (h : fcmpB .geq l lv = false) : zebQ x y wd lv l q = q := if_neg (by rw [h]; decide)
theorem zebQ_0 {x y wd : Int} {lv l : Nat} {q : Nat → Nat} (h : fcmpB .geq l lv = true) (h2 : (x + y) / wd % 2 = 0) : zebQ x y wd lv l q = fourF 1065353216 1065353216 1065353216 (q 3) := by unfold zebQ; rw [if_pos h, if_pos h2]
theorem zebQ_1 {x y wd : Int} {lv l : Nat} {q : Nat → Nat} (h : fcmpB .geq l lv = true) (h2 : ¬ (x + y) / wd % 2 = 0) : zebQ x y wd lv l q = fourF 0 0 0 (q 3) := by unfold zebQ; rw [if_pos h, if_neg h2]
theorem tmod2 (a : Int) : a.tmod 2 = 0 ↔ a % 2 = 0 := by
  rw [Int.tmod_eq_emod]
  split <;> omega
/-- numbers of pixels, turned by place -/
theorem madeF_pixT {xs : List Nat} {X Y : Int} {a b k c : Nat} (hk : k < a * b) (hc : c < 4) (T : Int → Int → (Nat → Nat) → Nat → Nat) :
    madeF (fun x y => T x y (pixF xs X Y a b x y)) X Y a (4 * k + c) = cl (T (X + ((k % a : Nat) : Int)) (Y + ((k / a : Nat) : Int)) (fun c => xs.getD (4 * k + c) 0) c) := by
  have ha : 0 < a := by
    rcases Nat.eq_zero_or_pos a with h0 | h0
    · subst h0; simp at hk
    · exact h0
  have h1 : k / a < b := by rw [Nat.div_lt_iff_lt_mul ha, Nat.mul_comm]; exact hk
  have h2 : k % a < a := Nat.mod_lt _ ha
  have h3 : (4 * k + c) / 4 = k := by omega
  have h4 : (4 * k + c) % 4 = c := by omega
  have h5 : pixF xs X Y a b (X + ((k % a : Nat) : Int)) (Y + ((k / a : Nat) : Int)) = fun c => xs.getD (4 * k + c) 0 := by
    funext d
    rw [pixF_at (i := k % a) (j := k / a) (near_in (Int.le_add_of_nonneg_right (Int.natCast_nonneg _)) (Int.add_lt_add_left (Int.ofNat_lt.2 h2) X)) (near_in (Int.le_add_of_nonneg_right (Int.natCast_nonneg _)) (Int.add_lt_add_left (Int.ofNat_lt.2 h1) Y)), Nat.div_add_mod' k a]
  unfold madeF
  rw [h3, h4]
  show cl (T _ _ (pixF xs X Y a b _ _) c) = _
  rw [h5]
/-- an integer as a float -/
def cvF (n : Int) : Nat := FloatKind.f32.nearest n
section
variable {P : Program} {W : World} {H : HL} {e : Env} {x : Operand} {t t' ty : TypeId}
theorem QO.cutArr {g n : Nat} {el : TypeId} {zs : List Value} {ag : Bool} {by_ : Nat} (hu : P.underlying t = some (.array n el)) (he : tyChk P el = some (zs, ag, by_)) (hx : ev e x = .pointer (some ⟨g, 0, none⟩)) : QO P W H e (.slice t x none none none) ty (.slice (some ⟨g, 0, none⟩) n n) := fun d pos af gd w _ => by
  simp [execOp, hx, Instr.sliceAt, run_underlying hu, Instr.sliceBounds, run_size he, Instr.sureAddr]
  intro _
  exact addr_add g 0 0
theorem QO.conv_i64_f32 {n : Int} (hu : P.underlying t = some (.int .i64)) (hu' : P.underlying t' = some (.float .f32)) (hx : ev e x = .int .i64 n) : QO P W H e (.convert t t' x) ty (flt (cvF n)) := fun d pos af gd w _ => by
  simp only [execOp, hx, Sem.run_bind, Sem.run_pure]
  simp [convert, run_underlying hu, run_underlying hu', Conv.intToFloat, cvF]
theorem QO.conv_i64_i64 {n : Int} (hu : P.underlying t = some (.int .i64)) (hu' : P.underlying t' = some (.int .i64)) (hx : ev e x = .int .i64 n) (h1 : -9223372036854775808 ≤ n) (h2 : n ≤ 9223372036854775807) : QO P W H e (.convert t t' x) ty (.int .i64 n) := fun d pos af gd w _ => by
  simp only [execOp, hx, Sem.run_bind, Sem.run_pure]
  simp [convert, run_underlying hu, run_underlying hu', Conv.intToInt, w64 h1 h2]
end
/-- what is wrong with a call of False, of Zebra -/
def falE (ok : Bool) (e : Int) : Int := if ok = false then 2 else e
def falT (bs : List Nat) (u : Nat → Nat) (nb : Nat) (q : Nat → Nat) : Nat → Nat := falseQ bs (lumaV u q) (q 3) nb
theorem fal_first (ok : Bool) (e : Int) : (if (if (!ok) = true then (2 : Int) else 0) ≠ 0 then (if (!ok) = true then (2 : Int) else 0) else e) = falE ok e := by cases ok <;> rfl
theorem bandsE_ok {xs : List Nat} {n : Nat} (h : bandsE xs n = 0) : n ≤ 32 := by
  unfold bandsE at h
  split at h
  · cases h
  · split at h
    · cases h
    · omega
def zebE (ok ok2 : Bool) (wd : Int) : Int := if ok = false ∨ ok2 = false then 2 else if wd < 1 ∨ 64 < wd then 3 else 0
theorem zebE_1 {ok ok2 : Bool} {wd : Int} (h : ok = false) : zebE ok ok2 wd = 2 := if_pos (.inl h)
theorem zebE_2 {ok ok2 : Bool} {wd : Int} (h : ok2 = false) : zebE ok ok2 wd = 2 := if_pos (.inr h)
theorem zebE_3 {ok ok2 : Bool} {wd : Int} (h : ok = true) (h2 : ok2 = true) (h3 : wd < 1 ∨ 64 < wd) : zebE ok ok2 wd = 3 := by unfold zebE; rw [if_neg (by simp [h, h2]), if_pos h3]
theorem zebE_0 {ok ok2 : Bool} {wd : Int} (h : ok = true) (h2 : ok2 = true) (h3 : ¬ (wd < 1 ∨ 64 < wd)) : zebE ok ok2 wd = 0 := by unfold zebE; rw [if_neg (by simp [h, h2]), if_neg h3]
theorem zebE_ok {ok ok2 : Bool} {wd : Int} (h : zebE ok ok2 wd = 0) : 1 ≤ wd ∧ wd ≤ 64 := by
  unfold zebE at h
  split at h
  · cases h
  · split at h
    · cases h
    · omega
theorem zeb_first {ok ok2 b : Bool} {wd : Int} (h : b = true ↔ (wd < 1 ∨ 64 < wd)) : firstE (fun i => [(if (!ok) = true then (2 : Int) else 0), (if (!ok2) = true then (2 : Int) else 0), (if b = true then (3 : Int) else 0)].getD i 0) 3 = zebE ok ok2 wd := by
  unfold zebE
  cases b <;> cases ok <;> cases ok2 <;> simp_all [firstE]
theorem cvF_1 : cvF 1 = 1065353216 := by decide +kernel
theorem cvF_0 : cvF 0 = 0 := by decide +kernel
theorem zeb_ref {x y wd : Int} {lv l : Nat} {q : Nat → Nat} (h : fcmpB .geq l lv = true) : fourF (cvF (1 - (x + y) / wd % 2)) (cvF (1 - (x + y) / wd % 2)) (cvF (1 - (x + y) / wd % 2)) (q 3) = zebQ x y wd lv l q := by
  by_cases e : (x + y) / wd % 2 = 0
  · rw [zebQ_0 h e, e, show (1 : Int) - 0 = 1 from rfl, cvF_1]
  · have e2 : (x + y) / wd % 2 = 1 := by omega
    rw [zebQ_1 h e, e2, show (1 : Int) - 1 = 0 from rfl, cvF_0]
/-- sums and means of zeros -/
theorem add_zero_zero : fo .add 0 0 = 0 := by decide +kernel
theorem sum_zeros (m : Nat) : ∀ n, n ≤ m → sum (List.replicate n 0) = 0 := by
  induction m with
  | zero => intro n hn; obtain rfl : n = 0 := by omega
            exact sum_nil
  | succ m ih =>
    intro n hn
    by_cases h2 : 2 ≤ n
    · rw [sum_more (by simpa using h2)]
      simp only [List.length_replicate, List.take_replicate, List.drop_replicate]
      rw [ih _ (by omega), ih _ (by omega)]
      exact add_zero_zero
    · by_cases h1 : n = 1
      · subst h1; rw [show List.replicate 1 0 = [0] from rfl, sum_one]; decide +kernel
      · obtain rfl : n = 0 := by omega
        exact sum_nil
theorem quo_zero : ∀ n : Nat, n < 257 → 0 < n → fop .quo 0 (cvF (n : Int)) = some 0 := by decide +kernel
end Go.Proofs.YtapcgokcfmklbaaDoor
