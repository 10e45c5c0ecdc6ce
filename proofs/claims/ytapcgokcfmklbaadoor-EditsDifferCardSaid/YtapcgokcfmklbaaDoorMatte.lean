/-
  Plain law of mattes of exact shares: greatest and least values of squares; opening. No program in sight. Conditions: none.
-/
import Derived.Test.YtapcgokcfmklbaaDoorNum
import Derived.Test.YtapcgokcfmklbaaDoorBands
namespace Go.Proofs.YtapcgokcfmklbaaDoor
open Go Go.RowKit

/-- the value of a number, in units of the least one -/
def fval (b : Nat) : Int := match Ieee.single.read b with
  | .number s m p => Ieee.signed s m (p + 149).toNat
  | _ => 0
theorem signed_shift (s : Bool) (m a k : Nat) : Ieee.signed s m (a + k) = Ieee.signed s m a * 2 ^ k := by
  unfold Ieee.signed
  have h : ((m <<< (a + k) : Nat) : Int) = ((m <<< a : Nat) : Int) * 2 ^ k := by
    rw [Nat.shiftLeft_eq, Nat.shiftLeft_eq, Nat.pow_add, ← Nat.mul_assoc]
    push_cast; rfl
  cases s
  · simpa using h
  · simp only [if_true]
    rw [h, Int.neg_mul]
theorem cmp_self (x : Int) : compare x x = .eq := Int.compare_eq_eq.2 rfl
theorem compare_scale (x y : Int) (k : Nat) : compare (x * 2 ^ k) (y * 2 ^ k) = compare x y := by
  have hk : (0 : Int) < 2 ^ k := Int.pow_pos (by decide)
  rcases Int.lt_trichotomy x y with h | h | h
  · rw [Int.compare_eq_lt.2 h, Int.compare_eq_lt.2 (Int.mul_lt_mul_of_pos_right h hk)]
  · subst h; rw [cmp_self, cmp_self]
  · rw [Int.compare_eq_gt.2 h, Int.compare_eq_gt.2 (Int.mul_lt_mul_of_pos_right h hk)]
theorem order_fval {a b : Nat} (ha : numB a = true) (hb : numB b = true) : Ieee.single.order a b = some (compare (fval a) (fval b)) := by
  unfold numB at ha hb
  split at ha
  · rename_i s m p ea
    split at hb
    · rename_i t n q eb
      have h1 := num_bd ea
      have h2 := num_bd eb
      unfold Ieee.Format.order fval
      rw [ea, eb]
      simp only [Ieee.Datum.order]
      have e1 : (p + 149).toNat = (p - min p q).toNat + (min p q + 149).toNat := by omega
      have e2 : (q + 149).toNat = (q - min p q).toNat + (min p q + 149).toNat := by omega
      rw [e1, e2, signed_shift, signed_shift, compare_scale]
    · cases hb
  · cases ha
/-- the share k/1024 -/
def qk (k : Nat) : Nat := (fop .quo (cvF (k : Int)) 1149239296).getD 0
theorem qk_div : ∀ k : Nat, k < 1025 → fop .quo (cvF (k : Int)) 1149239296 = some (qk k) := by decide +kernel
theorem qk_turn : ∀ k : Nat, k < 1025 → fop .sub 1065353216 (qk k) = some (qk (1024 - k)) := by decide +kernel
theorem qk_num : ∀ k : Nat, k < 1025 → numB (qk k) = true := by decide +kernel
theorem qk_val : ∀ k : Nat, k < 1025 → fval (qk k) = (k : Int) * 2 ^ 139 := by decide +kernel
theorem qk_zero : qk 0 = 0 := by decide +kernel
theorem qk_order {a b : Nat} (ha : a ≤ 1024) (hb : b ≤ 1024) : Ieee.single.order (qk a) (qk b) = some (compare (a : Int) (b : Int)) := by
  rw [order_fval (qk_num a (by omega)) (qk_num b (by omega)), qk_val a (by omega), qk_val b (by omega), compare_scale]
theorem qk_gtr {a b : Nat} (ha : a ≤ 1024) (hb : b ≤ 1024) : fcmpB .gtr (qk a) (qk b) = decide (b < a) := by
  unfold fcmpB
  rw [qk_order ha hb]
  rcases Nat.lt_trichotomy a b with h | h | h
  · rw [Int.compare_eq_lt.2 (by omega), decide_eq_false (by omega)]; rfl
  · subst h; rw [cmp_self, decide_eq_false (by omega)]; rfl
  · rw [Int.compare_eq_gt.2 (by omega), decide_eq_true (by omega)]; rfl
theorem qk_lss {a b : Nat} (ha : a ≤ 1024) (hb : b ≤ 1024) : fcmpB .lss (qk a) (qk b) = decide (a < b) := by
  unfold fcmpB
  rw [qk_order ha hb]
  rcases Nat.lt_trichotomy a b with h | h | h
  · rw [Int.compare_eq_lt.2 (by omega), decide_eq_true (by omega)]; rfl
  · subst h; rw [cmp_self, decide_eq_false (by omega)]; rfl
  · rw [Int.compare_eq_gt.2 (by omega), decide_eq_false (by omega)]; rfl
theorem qk_neq (a : Nat) (ha : a ≤ 1024) : fcmpB .neq (qk a) (qk a) = false := by
  unfold fcmpB
  rw [qk_order ha ha, cmp_self]; rfl
theorem qk_nan {a : Nat} (ha : a ≤ 1024) : nan32 (qk a) = false := nan_of_num (qk_num a (by omega))
theorem qk_cl {a : Nat} (ha : a ≤ 1024) : cl (qk a) = qk a := cl_num (qk_nan ha)

/-! ### greatest and least of a list -/
/-- the first of the greatest (least) of a row -/
def bestG (op : BinOp) (l : List Nat) : Nat := l.foldl (fun b v => if fcmpB op v b then v else b) (l.getD 0 0)
def maxK (l : List Nat) : Nat := l.foldl max (l.getD 0 0)
def minK (l : List Nat) : Nat := l.foldl min (l.getD 0 0)
theorem foldl_max : ∀ (l : List Nat) (a b : Nat), l.foldl max a ≤ b ↔ a ≤ b ∧ ∀ x ∈ l, x ≤ b
  | [], a, b => by simp
  | x :: l, a, b => by
    rw [List.foldl_cons, foldl_max l]
    simp only [List.mem_cons, forall_eq_or_imp, Nat.max_le]
    exact and_assoc
theorem foldl_min : ∀ (l : List Nat) (a b : Nat), b ≤ l.foldl min a ↔ b ≤ a ∧ ∀ x ∈ l, b ≤ x
  | [], a, b => by simp
  | x :: l, a, b => by
    rw [List.foldl_cons, foldl_min l]
    simp only [List.mem_cons, forall_eq_or_imp, Nat.le_min]
    exact and_assoc
theorem maxK_le {l : List Nat} {b : Nat} (h : 0 < l.length) : maxK l ≤ b ↔ ∀ x ∈ l, x ≤ b := by
  unfold maxK
  rw [foldl_max]
  refine ⟨fun h => h.2, fun h' => ⟨?_, h'⟩⟩
  rw [← getD_at l 0 h]
  exact h' _ (List.getElem_mem _)
theorem le_minK {l : List Nat} {b : Nat} (h : 0 < l.length) : b ≤ minK l ↔ ∀ x ∈ l, b ≤ x := by
  unfold minK
  rw [foldl_min]
  refine ⟨fun h => h.2, fun h' => ⟨?_, h'⟩⟩
  rw [← getD_at l 0 h]
  exact h' _ (List.getElem_mem _)
theorem maxK_bd {l : List Nat} {b : Nat} (h : ∀ x ∈ l, x ≤ b) : maxK l ≤ b := by
  unfold maxK
  rw [foldl_max]
  refine ⟨?_, h⟩
  rcases Nat.eq_zero_or_pos l.length with h0 | h0
  · rw [List.eq_nil_of_length_eq_zero h0]; exact Nat.zero_le _
  · rw [← getD_at l 0 h0]; exact h _ (List.getElem_mem _)
theorem minK_bd {l : List Nat} {b : Nat} (h : ∀ x ∈ l, x ≤ b) : minK l ≤ b := by
  rcases Nat.eq_zero_or_pos l.length with h0 | h0
  · rw [List.eq_nil_of_length_eq_zero h0]; exact Nat.zero_le _
  · have h1 := (le_minK (b := minK l) h0).1 (Nat.le_refl _) _ (List.getElem_mem h0)
    exact Nat.le_trans h1 (h _ (List.getElem_mem h0))
theorem getD_map_qk (l : List Nat) (i : Nat) : (l.map qk).getD i 0 = qk (l.getD i 0) := by
  simp only [List.getD, List.getElem?_map]
  cases l[i]? with
  | none => simp [qk_zero]
  | some x => rfl
theorem bestG_max {l : List Nat} (h : ∀ x ∈ l, x ≤ 1024) : bestG .gtr (l.map qk) = qk (maxK l) := by
  unfold bestG maxK
  rw [getD_map_qk]
  have key : ∀ (m : List Nat) (a : Nat), a ≤ 1024 → (∀ x ∈ m, x ≤ 1024) → (m.map qk).foldl (fun b v => if fcmpB .gtr v b then v else b) (qk a) = qk (m.foldl max a) := by
    intro m
    induction m with
    | nil => intro a _ _; rfl
    | cons x m ih =>
      intro a ha hm
      simp only [List.map_cons, List.foldl_cons]
      have hx := hm x (List.mem_cons_self ..)
      have e : (if fcmpB .gtr (qk x) (qk a) then qk x else qk a) = qk (max a x) := by
        rw [qk_gtr hx ha]
        by_cases hh : a < x
        · rw [if_pos (by simpa using hh)]; congr 1; omega
        · rw [if_neg (by simpa using hh)]; congr 1; omega
      rw [e]
      exact ih _ (by omega) (fun y hy => hm y (List.mem_cons_of_mem _ hy))
  refine key l _ ?_ h
  rcases Nat.eq_zero_or_pos l.length with h0 | h0
  · rw [List.eq_nil_of_length_eq_zero h0]; exact Nat.zero_le _
  · rw [← getD_at l 0 h0]; exact h _ (List.getElem_mem _)
theorem bestG_min {l : List Nat} (h : ∀ x ∈ l, x ≤ 1024) : bestG .lss (l.map qk) = qk (minK l) := by
  unfold bestG minK
  rw [getD_map_qk]
  have key : ∀ (m : List Nat) (a : Nat), a ≤ 1024 → (∀ x ∈ m, x ≤ 1024) → (m.map qk).foldl (fun b v => if fcmpB .lss v b then v else b) (qk a) = qk (m.foldl min a) := by
    intro m
    induction m with
    | nil => intro a _ _; rfl
    | cons x m ih =>
      intro a ha hm
      simp only [List.map_cons, List.foldl_cons]
      have hx := hm x (List.mem_cons_self ..)
      have e : (if fcmpB .lss (qk x) (qk a) then qk x else qk a) = qk (min a x) := by
        rw [qk_lss hx ha]
        by_cases hh : x < a
        · rw [if_pos (by simpa using hh)]; congr 1; omega
        · rw [if_neg (by simpa using hh)]; congr 1; omega
      rw [e]
      exact ih _ (by omega) (fun y hy => hm y (List.mem_cons_of_mem _ hy))
  refine key l _ ?_ h
  rcases Nat.eq_zero_or_pos l.length with h0 | h0
  · rw [List.eq_nil_of_length_eq_zero h0]; exact Nat.zero_le _
  · rw [← getD_at l 0 h0]; exact h _ (List.getElem_mem _)

/-! ### squares -/
/-- the numbers of the square behind place i of a smaller matte (W' wide) of one that is W wide -/
def sqL (g : Nat → Nat) (side W W' i : Nat) (n : Nat) : List Nat := (List.range n).map fun t => g ((i / W' + t / side) * W + i % W' + t % side)
/-- a matte of numbers: f of column and row -/
def matV (f : Nat → Nat → Nat) (W N : Nat) : List Nat := (List.range N).map fun i => qk (f (i % W) (i / W))
theorem matV_at {f : Nat → Nat → Nat} {W N i : Nat} (h : i < N) : (matV f W N).getD i 0 = qk (f (i % W) (i / W)) := by
  rw [← getD_at _ _ (by simpa [matV] using h)]
  simp [matV]
theorem matV_len (f : Nat → Nat → Nat) (W N : Nat) : (matV f W N).length = N := by simp [matV]
/-- the values of a square -/
def sqF (f : Nat → Nat → Nat) (side x y : Nat) : List Nat := (List.range (side * side)).map fun t => f (x + t % side) (y + t / side)
def mxS (side : Nat) (f : Nat → Nat → Nat) (x y : Nat) : Nat := maxK (sqF f side x y)
def mnS (side : Nat) (f : Nat → Nat → Nat) (x y : Nat) : Nat := minK (sqF f side x y)
/-- gathered from the squares -/
def aroV (G : List Nat → Nat) (xs : List Nat) (side W W' N : Nat) : List Nat := (List.range N).map fun i => cl (G (sqL (fun k => xs.getD k 0) side W W' i (side * side)))
theorem sqF_len {f : Nat → Nat → Nat} {side x y : Nat} (h : 1 ≤ side) : 0 < (sqF f side x y).length := by
  simp only [sqF, List.length_map, List.length_range]
  exact Nat.mul_pos h h
theorem sqF_mem {f : Nat → Nat → Nat} {side x y v : Nat} (h : 1 ≤ side) : v ∈ sqF f side x y ↔ ∃ a b, a < side ∧ b < side ∧ v = f (x + a) (y + b) := by
  simp only [sqF, List.mem_map, List.mem_range]
  constructor
  · rintro ⟨t, ht, rfl⟩
    exact ⟨t % side, t / side, Nat.mod_lt _ h, (Nat.div_lt_iff_lt_mul h).2 ht, rfl⟩
  · rintro ⟨a, b, ha, hb, rfl⟩
    have h1 : b * side + a < side * side := by
      have := Nat.mul_le_mul_right side (show b + 1 ≤ side from hb)
      rw [Nat.add_mul] at this
      omega
    refine ⟨b * side + a, h1, ?_⟩
    rw [Nat.mul_comm b side, Nat.mul_add_mod, Nat.mod_eq_of_lt ha, Nat.mul_add_div h, Nat.div_eq_of_lt ha, Nat.add_zero]
theorem mxS_le {side : Nat} {f : Nat → Nat → Nat} {x y b : Nat} (h : 1 ≤ side) : mxS side f x y ≤ b ↔ ∀ i j, i < side → j < side → f (x + i) (y + j) ≤ b := by
  unfold mxS
  rw [maxK_le (sqF_len h)]
  constructor
  · exact fun h' i j hi hj => h' _ ((sqF_mem h).2 ⟨i, j, hi, hj, rfl⟩)
  · rintro h' v hv
    obtain ⟨i, j, hi, hj, rfl⟩ := (sqF_mem h).1 hv
    exact h' i j hi hj
theorem le_mnS {side : Nat} {f : Nat → Nat → Nat} {x y b : Nat} (h : 1 ≤ side) : b ≤ mnS side f x y ↔ ∀ i j, i < side → j < side → b ≤ f (x + i) (y + j) := by
  unfold mnS
  rw [le_minK (sqF_len h)]
  constructor
  · exact fun h' i j hi hj => h' _ ((sqF_mem h).2 ⟨i, j, hi, hj, rfl⟩)
  · rintro h' v hv
    obtain ⟨i, j, hi, hj, rfl⟩ := (sqF_mem h).1 hv
    exact h' i j hi hj
theorem mxS_bd {side : Nat} {f : Nat → Nat → Nat} {b : Nat} (h : ∀ x y, f x y ≤ b) (x y : Nat) : mxS side f x y ≤ b := by
  refine maxK_bd fun v hv => ?_
  simp only [sqF, List.mem_map] at hv
  obtain ⟨t, _, rfl⟩ := hv
  exact h _ _
theorem mnS_bd {side : Nat} {f : Nat → Nat → Nat} {b : Nat} (h : ∀ x y, f x y ≤ b) (x y : Nat) : mnS side f x y ≤ b := by
  refine minK_bd fun v hv => ?_
  simp only [sqF, List.mem_map] at hv
  obtain ⟨t, _, rfl⟩ := hv
  exact h _ _
/-- what is opened is nowhere greater -/
theorem open_le {r : Nat} (f : Nat → Nat → Nat) (x y : Nat) : mxS (2 * r + 1) (mnS (2 * r + 1) f) x y ≤ f (x + 2 * r) (y + 2 * r) := by
  rw [mxS_le (by omega)]
  intro i j hi hj
  have := (le_mnS (side := 2 * r + 1) (f := f) (x := x + i) (y := y + j) (by omega)).1 (Nat.le_refl _) (2 * r - i) (2 * r - j) (by omega) (by omega)
  rw [show x + i + (2 * r - i) = x + 2 * r by omega, show y + j + (2 * r - j) = y + 2 * r by omega] at this
  exact this
/-- opening twice is opening once -/
theorem open_open {r : Nat} (f : Nat → Nat → Nat) (x y : Nat) : mxS (2 * r + 1) (mnS (2 * r + 1) (mxS (2 * r + 1) (mnS (2 * r + 1) f))) x y = mxS (2 * r + 1) (mnS (2 * r + 1) f) (x + 2 * r) (y + 2 * r) := by
  apply Nat.le_antisymm
  · exact open_le _ x y
  · rw [mxS_le (by omega)]
    intro i j hi hj
    have h1 : mnS (2 * r + 1) f (x + 2 * r + i) (y + 2 * r + j) ≤ mnS (2 * r + 1) (mxS (2 * r + 1) (mnS (2 * r + 1) f)) (x + i) (y + j) := by
      rw [le_mnS (by omega)]
      intro i' j' hi' hj'
      have := (mxS_le (side := 2 * r + 1) (f := mnS (2 * r + 1) f) (x := x + i + i') (y := y + j + j') (by omega)).1 (Nat.le_refl _) (2 * r - i') (2 * r - j') (by omega) (by omega)
      rw [show x + i + i' + (2 * r - i') = x + 2 * r + i by omega, show y + j + j' + (2 * r - j') = y + 2 * r + j by omega] at this
      exact this
    exact Nat.le_trans h1 ((mxS_le (side := 2 * r + 1) (by omega)).1 (Nat.le_refl _) i j hi hj)
/-- what is least is what is left of the greatest of what is left -/
theorem turn_min {side : Nat} (h : 1 ≤ side) {f : Nat → Nat → Nat} (hf : ∀ x y, f x y ≤ 1024) (x y : Nat) : 1024 - mxS side (fun x y => 1024 - f x y) x y = mnS side f x y := by
  apply Nat.le_antisymm
  · rw [le_mnS h]
    intro i j hi hj
    have := (mxS_le (side := side) (f := fun x y => 1024 - f x y) (x := x) (y := y) h).1 (Nat.le_refl _) i j hi hj
    have := hf (x + i) (y + j)
    omega
  · have h2 : mxS side (fun x y => 1024 - f x y) x y ≤ 1024 - mnS side f x y := by
      rw [mxS_le h]
      intro i j hi hj
      have := (le_mnS (side := side) (f := f) (x := x) (y := y) h).1 (Nat.le_refl _) i j hi hj
      omega
    have := mxS_bd (side := side) (f := fun x y => 1024 - f x y) (b := 1024) (fun x y => by omega) x y
    have := mnS_bd (side := side) (b := 1024) hf x y
    omega
theorem sqL_matV {f : Nat → Nat → Nat} {r W H W' H' i : Nat} (hw : W = W' + 2 * r) (hh : H = H' + 2 * r) (hi : i < W' * H') :
    sqL (fun k => (matV f W (W * H)).getD k 0) (2 * r + 1) W W' i ((2 * r + 1) * (2 * r + 1)) = (sqF f (2 * r + 1) (i % W') (i / W')).map qk := by
  unfold sqL sqF
  rw [List.map_map]
  apply List.map_congr_left
  intro t ht
  have ht := List.mem_range.1 ht
  have hW' : 0 < W' := by
    rcases Nat.eq_zero_or_pos W' with h0 | h0
    · subst h0; simp at hi
    · exact h0
  have h1 : i / W' < H' := by rw [Nat.div_lt_iff_lt_mul hW', Nat.mul_comm]; exact hi
  have h2 : i % W' < W' := Nat.mod_lt _ hW'
  have h3 : t / (2 * r + 1) < 2 * r + 1 := by rw [Nat.div_lt_iff_lt_mul (by omega)]; exact ht
  have h4 : t % (2 * r + 1) < 2 * r + 1 := Nat.mod_lt _ (by omega)
  generalize i / W' = a at *
  generalize i % W' = b at *
  simp only [Function.comp]
  generalize t / (2 * r + 1) = c at *
  generalize t % (2 * r + 1) = d at *
  have h5 : b + d < W := by omega
  have h6 : (a + c) * W + b + d < W * H := by
    have := Nat.mul_le_mul_right W (show a + c + 1 ≤ H by omega)
    rw [Nat.add_mul, Nat.mul_comm H W] at this
    omega
  rw [matV_at h6, Nat.add_assoc, Nat.mul_comm, Nat.mul_add_mod, Nat.mod_eq_of_lt h5, Nat.mul_add_div (by omega), Nat.div_eq_of_lt h5, Nat.add_zero]
theorem aroV_max {f : Nat → Nat → Nat} {r W H W' H' : Nat} (hf : ∀ x y, f x y ≤ 1024) (hw : W = W' + 2 * r) (hh : H = H' + 2 * r) : aroV (bestG .gtr) (matV f W (W * H)) (2 * r + 1) W W' (W' * H') = matV (mxS (2 * r + 1) f) W' (W' * H') := by
  unfold aroV
  show _ = List.map _ _
  apply List.map_congr_left
  intro i hi
  rw [sqL_matV hw hh (List.mem_range.1 hi), bestG_max, qk_cl (maxK_bd ?_)]
  · rfl
  all_goals
    intro x hx
    simp only [sqF, List.mem_map] at hx
    obtain ⟨t, _, rfl⟩ := hx
    exact hf _ _
theorem aroV_min {f : Nat → Nat → Nat} {r W H W' H' : Nat} (hf : ∀ x y, f x y ≤ 1024) (hw : W = W' + 2 * r) (hh : H = H' + 2 * r) : aroV (bestG .lss) (matV f W (W * H)) (2 * r + 1) W W' (W' * H') = matV (mnS (2 * r + 1) f) W' (W' * H') := by
  unfold aroV
  show _ = List.map _ _
  apply List.map_congr_left
  intro i hi
  rw [sqL_matV hw hh (List.mem_range.1 hi), bestG_min, qk_cl (minK_bd ?_)]
  · rfl
  all_goals
    intro x hx
    simp only [sqF, List.mem_map] at hx
    obtain ⟨t, _, rfl⟩ := hx
    exact hf _ _
end Go.Proofs.YtapcgokcfmklbaaDoor
