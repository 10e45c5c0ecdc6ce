/-
  Plain functions: a stretch cut into tiles, regions cut into tiles, their areas. No program in sight. Conditions: none.
-/
import Derived.Test.YtapcgokcfmklbaaDoorPix
namespace Go.Proofs.YtapcgokcfmklbaaDoor
open Go Go.RowKit

theorem fdiv_neg {a : Int} {s : Nat} (h : 1 ≤ s) (hm : a.tmod (s : Int) < 0) : a.tdiv (s : Int) - 1 = a / (s : Int) ∧ a.tmod (s : Int) + (s : Int) = a % (s : Int) := by
  rw [Int.tmod_eq_emod] at hm ⊢
  rw [Int.tdiv_eq_ediv]
  have h1 := Int.emod_nonneg a (b := (s : Int)) (by omega)
  split at hm
  · omega
  · rename_i h2
    rw [if_neg h2, if_neg h2, Int.sign_eq_one_of_pos (by omega)]
    constructor <;> omega
theorem fdiv_pos {a : Int} {s : Nat} (h : 1 ≤ s) (hm : ¬ a.tmod (s : Int) < 0) : a.tdiv (s : Int) = a / (s : Int) ∧ a.tmod (s : Int) = a % (s : Int) := by
  rw [Int.tmod_eq_emod] at hm ⊢
  rw [Int.tdiv_eq_ediv]
  have h1 := Int.emod_lt_of_pos a (b := (s : Int)) (by omega)
  split at hm
  · rename_i h2
    rw [if_pos h2, if_pos h2]
    constructor <;> omega
  · rename_i h2
    omega
theorem tdiv_bd {a : Int} {s : Nat} (h : -1000000000000 ≤ a ∧ a ≤ 1000000000000) : -1000000000000 ≤ a.tdiv (s : Int) ∧ a.tdiv (s : Int) ≤ 1000000000000 := by
  have := Int.natAbs_tdiv_le_natAbs a (s : Int)
  omega
/-- the place before the first tile -/
def px (X : Int) (s : Nat) : Nat := (X % (s : Int)).toNat
theorem px_eq {X : Int} {s : Nat} (h : 1 ≤ s) : ((px X s : Nat) : Int) = X % (s : Int) ∧ px X s < s := by
  have h1 := Int.emod_nonneg X (b := (s : Int)) (by omega)
  have h2 := Int.emod_lt_of_pos X (b := (s : Int)) (by omega)
  unfold px
  omega
theorem px_mul {X : Int} {s : Nat} (h : 1 ≤ s) : X / (s : Int) * (s : Int) = X - px X s := by
  have h1 := Int.ediv_mul_add_emod X (s : Int)
  have h2 := px_eq (X := X) h
  omega
/-- how many tiles -/
def cntI (X : Int) (w s : Nat) : Nat := (px X s + w + s - 1) / s
theorem cntI_iff {X : Int} {w s i : Nat} (h : 1 ≤ s) : i < cntI X w s ↔ s * i < px X s + w := by
  unfold cntI
  rw [Nat.lt_div_iff_mul_lt (by omega), Nat.mul_comm]
  omega
/-- where tile i begins, and how wide it is -/
def tb (X : Int) (s i : Nat) : Int := max X (X - (px X s : Nat) + ((s * i : Nat) : Int))
def tw (X : Int) (w s i : Nat) : Int := min (X + w) (X - (px X s : Nat) + ((s * i : Nat) : Int) + s) - tb X s i
theorem tw_pos {X : Int} {w s i : Nat} (h : 1 ≤ s) (hw : 1 ≤ w) (hi : i < cntI X w s) : 1 ≤ tw X w s i ∧ tw X w s i ≤ w := by
  have h1 := (cntI_iff h).1 hi
  have h2 := (px_eq (X := X) h).2
  unfold tw tb
  omega
/-- how much the first i tiles cover -/
def cov (X : Int) (w s i : Nat) : Int := min (w : Int) (max 0 (((s * i : Nat) : Int) - (px X s : Nat)))
theorem cov_zero (X : Int) (w s : Nat) : cov X w s 0 = 0 := by unfold cov; omega
theorem cov_succ {X : Int} {w s i : Nat} (h : 1 ≤ s) (hi : i < cntI X w s) : cov X w s (i + 1) = cov X w s i + tw X w s i := by
  have h1 := (cntI_iff h).1 hi
  have h2 := (px_eq (X := X) h).2
  have h3 : s * (i + 1) = s * i + s := Nat.mul_succ s i
  unfold cov tw tb
  rw [h3]
  omega
theorem cov_end {X : Int} {w s i : Nat} (h : 1 ≤ s) (hi : ¬ i < cntI X w s) : cov X w s i = w := by
  have h1 : ¬ s * i < px X s + w := fun h1 => hi ((cntI_iff h).2 h1)
  unfold cov
  omega
theorem cov_bd (X : Int) (w s i : Nat) : 0 ≤ cov X w s i ∧ cov X w s i ≤ w := by unfold cov; omega

abbrev Rg := Int × Int × Int × Int
def rgc (t : Rg) : List Value := [iv t.1, iv t.2.1, iv t.2.2.1, iv t.2.2.2]
def area (t : Rg) : Int := t.2.2.1 * t.2.2.2
def areas : List Rg → Int
  | [] => 0
  | t :: l => area t + areas l
theorem areas_append (l m : List Rg) : areas (l ++ m) = areas l + areas m := by
  induction l with
  | nil => simp [areas]
  | cons t l ih => simp [areas, ih]; omega
theorem areas_nonneg {l : List Rg} (h : ∀ t ∈ l, 0 ≤ area t) : 0 ≤ areas l := by
  induction l with
  | nil => exact Int.le_refl _
  | cons t l ih =>
    have h1 := h t (List.mem_cons_self ..)
    have h2 := ih fun u hu => h u (List.mem_cons_of_mem _ hu)
    show 0 ≤ area t + areas l
    omega
theorem areas_take_le {l : List Rg} (h : ∀ t ∈ l, 0 ≤ area t) (k : Nat) : areas (l.take k) ≤ areas l ∧ 0 ≤ areas (l.take k) := by
  have h1 : areas l = areas (l.take k) + areas (l.drop k) := by rw [← areas_append, List.take_append_drop]
  have h2 := areas_nonneg (l := l.drop k) fun t ht => h t (List.mem_of_mem_drop ht)
  have h3 := areas_nonneg (l := l.take k) fun t ht => h t (List.mem_of_mem_take ht)
  omega
/-- tile (i, j) of a region -/
def tile (X Y : Int) (w h s i j : Nat) : Rg := (tb X s i, tb Y s j, tw X w s i, tw Y h s j)
/-- the tiles of the rows below j -/
def rowsL (X Y : Int) (w h s : Nat) : Nat → List Rg
  | 0 => []
  | j + 1 => rowsL X Y w h s j ++ (List.range (cntI X w s)).map (tile X Y w h s · j)
/-- and of row j the first i -/
def tilesL (X Y : Int) (w h s j i : Nat) : List Rg := rowsL X Y w h s j ++ (List.range i).map (tile X Y w h s · j)
theorem tilesL_zero (X Y : Int) (w h s j : Nat) : tilesL X Y w h s j 0 = rowsL X Y w h s j := by simp [tilesL]
theorem tilesL_succ (X Y : Int) (w h s j i : Nat) : tilesL X Y w h s j (i + 1) = tilesL X Y w h s j i ++ [tile X Y w h s i j] := by simp [tilesL, List.range_succ]
theorem tilesL_row (X Y : Int) (w h s j : Nat) : tilesL X Y w h s j (cntI X w s) = rowsL X Y w h s (j + 1) := rfl
theorem areas_row {X Y : Int} {w h s j : Nat} (hs : 1 ≤ s) : ∀ i, i ≤ cntI X w s → areas ((List.range i).map (tile X Y w h s · j)) = cov X w s i * tw Y h s j
  | 0, _ => by rw [cov_zero, Int.zero_mul]; rfl
  | i + 1, hi => by
    rw [List.range_succ, List.map_append, areas_append, areas_row hs i (by omega), cov_succ hs (by omega), Int.add_mul]
    show _ + (area (tile X Y w h s i j) + 0) = _
    rw [Int.add_zero]; rfl
theorem areas_rows {X Y : Int} {w h s : Nat} (hs : 1 ≤ s) : ∀ j, j ≤ cntI Y h s → areas (rowsL X Y w h s j) = w * cov Y h s j
  | 0, _ => by rw [cov_zero, Int.mul_zero]; rfl
  | j + 1, hj => by
    show areas (rowsL X Y w h s j ++ (List.range (cntI X w s)).map (tile X Y w h s · j)) = _
    rw [areas_append, areas_rows hs j (by omega), areas_row hs _ (Nat.le_refl _), cov_end hs (Nat.lt_irrefl _), cov_succ hs (by omega), Int.mul_add]
theorem areas_all {X Y : Int} {w h s : Nat} (hs : 1 ≤ s) : areas (rowsL X Y w h s (cntI Y h s)) = w * h := by
  rw [areas_rows hs _ (Nat.le_refl _), cov_end hs (Nat.lt_irrefl _)]
theorem mem_rows {X Y : Int} {w h s : Nat} {t : Rg} : ∀ j, t ∈ rowsL X Y w h s j → ∃ i k, i < cntI X w s ∧ k < j ∧ t = tile X Y w h s i k
  | 0, ht => by cases ht
  | j + 1, ht => by
    rcases List.mem_append.1 ht with h1 | h1
    · obtain ⟨i, k, h2, h3, h4⟩ := mem_rows j h1
      exact ⟨i, k, h2, by omega, h4⟩
    · obtain ⟨i, hi, rfl⟩ := List.mem_map.1 h1
      exact ⟨i, j, List.mem_range.1 hi, by omega, rfl⟩
theorem area_tile {X Y : Int} {w h s i j : Nat} (hs : 1 ≤ s) (hw : 1 ≤ w) (hh : 1 ≤ h) (hi : i < cntI X w s) (hj : j < cntI Y h s) : 1 ≤ area (tile X Y w h s i j) := by
  have h1 := tw_pos hs hw hi
  have h2 := tw_pos (X := Y) hs hh hj
  have : 1 * 1 ≤ tw X w s i * tw Y h s j := Int.mul_le_mul (by omega) (by omega) (by omega) (by omega)
  exact this
/-- cells of a row of regions -/
def rgs (l : List Rg) : List Value := l.flatMap rgc
theorem rgs_at : ∀ (l : List Rg) (i : Nat) (t : Rg) (j : Nat) (v : Value), l[i]? = some t → (rgc t)[j]? = some v → (rgs l)[i * 4 + j]? = some v
  | [], i, t, j, v, h, _ => by simp at h
  | u :: l, 0, t, j, v, h, hv => by
    simp at h; subst h
    have hj : j < (rgc u).length := (List.getElem?_eq_some_iff.1 hv).1
    show (rgc u ++ rgs l)[0 * 4 + j]? = _
    rw [List.getElem?_append_left (by omega), show 0 * 4 + j = j by omega]
    exact hv
  | u :: l, i + 1, t, j, v, h, hv => by
    show (rgc u ++ rgs l)[(i + 1) * 4 + j]? = _
    have h4 : (rgc u).length = 4 := rfl
    rw [List.getElem?_append_right (by omega), h4, show (i + 1) * 4 + j - 4 = i * 4 + j by omega]
    exact rgs_at l i t j v (by simpa using h) hv
theorem rgs_len (l : List Rg) : (rgs l).length = l.length * 4 := by
  induction l with
  | nil => rfl
  | cons t l ih => show (rgc t ++ rgs l).length = _; rw [List.length_append, ih]; show 4 + _ = _; simp; omega
theorem rgs_append (l : List Rg) (t : Rg) : rgs (l ++ [t]) = rgs l ++ rgc t := by simp [rgs]
/-- A slice of regions that reads so. -/
def RSl (W : World) (A : Option Addr) (l : List Rg) : Prop := 0 < l.length → ∃ b o, A = some ⟨b, o, none⟩ ∧ ∀ i t, l[i]? = some t → ∀ j v, (rgc t)[j]? = some v → W.cell? ((⟨b, o + i * 4, none⟩ : Addr).add j) = some v
theorem RSl.own {W w : World} {H : HL} {A : Option Addr} {l : List Rg} (h : RSl W A l) (ho : Own W w H) : RSl w A l := fun hn => by
  obtain ⟨b, o, h1, h2⟩ := h hn
  exact ⟨b, o, h1, fun i t hi j v hj => ho.old (h2 i t hi j v hj)⟩
theorem RSl.blk {W w : World} {H : HL} {g : Nat} {t : TypeId} {l : List Rg} {junk : List Value} (ho : Own W w H) (hm : (⟨g, t, rgs l ++ junk⟩ : B) ∈ H) : RSl w (some ⟨g, 0, none⟩) l := fun _ => by
  refine ⟨g, 0, rfl, fun i u hi j v hj => ?_⟩
  rw [addr_add, (ho.blk _ hm).2.cell]
  have h1 := rgs_at l i u j v hi hj
  have h2 : i * 4 + j < (rgs l).length := (List.getElem?_eq_some_iff.1 h1).1
  rw [Nat.zero_add, List.getElem?_append_left h2]
  exact h1
theorem tmod_bd {a : Int} {s : Nat} (h : 1 ≤ s) : -(s : Int) < a.tmod (s : Int) ∧ a.tmod (s : Int) < (s : Int) := by
  rw [Int.tmod_eq_emod]
  have h1 := Int.emod_nonneg a (b := (s : Int)) (by omega)
  have h2 := Int.emod_lt_of_pos a (b := (s : Int)) (by omega)
  split <;> omega
theorem px_at {X : Int} {s : Nat} (h : 1 ≤ s) (i : Nat) : (X / (s : Int) + (i : Int)) * (s : Int) = X - (px X s : Nat) + ((s * i : Nat) : Int) := by
  rw [Int.add_mul, px_mul h, Int.natCast_mul, Int.mul_comm (i : Int)]
theorem cntI_le {X : Int} {w s : Nat} (h : 1 ≤ s) : cntI X w s ≤ w + 1 := by
  rcases Nat.lt_or_ge (w + 1) (cntI X w s) with h1 | h1
  · have h2 := (cntI_iff h).1 h1
    have h3 := (px_eq (X := X) h).2
    have h4 : 1 * w ≤ s * w := Nat.mul_le_mul_right w h
    have h5 : s * (w + 1) = s * w + s := Nat.mul_succ s w
    omega
  · exact h1
theorem si_bd {X : Int} {w s i : Nat} (h : 1 ≤ s) (hi : i ≤ cntI X w s) : s * i < px X s + w + s + 1 := by
  cases i with
  | zero => simp
  | succ i =>
    have h2 := (cntI_iff h).1 (show i < cntI X w s by omega)
    have h5 : s * (i + 1) = s * i + s := Nat.mul_succ s i
    omega
theorem rowsL_len (X Y : Int) (w h s : Nat) : ∀ j, (rowsL X Y w h s j).length = j * cntI X w s
  | 0 => by simp [rowsL]
  | j + 1 => by
    show (rowsL X Y w h s j ++ _).length = _
    rw [List.length_append, rowsL_len X Y w h s j, List.length_map, List.length_range, Nat.succ_mul]
theorem tilesL_len {X Y : Int} {w h s j i : Nat} (hs : 1 ≤ s) (hw : w ≤ 256) (hh : h ≤ 256) (hj : j ≤ cntI Y h s) (hi : i ≤ cntI X w s) : (tilesL X Y w h s j i).length ≤ 70000 := by
  have h1 := cntI_le (X := X) (w := w) hs
  have h2 := cntI_le (X := Y) (w := h) hs
  have h3 : j * cntI X w s ≤ 257 * 257 := Nat.mul_le_mul (by omega) (by omega)
  unfold tilesL
  rw [List.length_append, rowsL_len, List.length_map, List.length_range]
  omega
theorem rgs_take {l : List Rg} {junk : List Value} {k : Nat} (hk : k < l.length) : ((rgs l ++ junk).drop (k * 4)).take 4 = rgc l[k] := by
  have h4 := rgs_len l
  rw [List.drop_append_of_le_length (by omega), List.take_append_of_le_length (by rw [List.length_drop]; omega)]
  apply List.ext_getElem?
  intro j
  by_cases hj : j < 4
  · have h2 : j < (rgc l[k]).length := hj
    rw [List.getElem?_take_of_lt hj, List.getElem?_drop, List.getElem?_eq_getElem h2]
    exact rgs_at l k _ j _ (List.getElem?_eq_getElem hk) (List.getElem?_eq_getElem h2)
  · rw [List.getElem?_eq_none (by simp; omega), List.getElem?_eq_none (by show 4 ≤ j; omega)]
theorem areas_take_succ {l : List Rg} {k : Nat} (hk : k < l.length) : areas (l.take (k + 1)) = areas (l.take k) + l[k].2.2.1 * l[k].2.2.2 := by
  rw [List.take_add_one, List.getElem?_eq_getElem hk, areas_append]
  show _ + (area l[k] + 0) = _
  rw [Int.add_zero]; rfl
theorem Row.opn {el s : Nat} {v : Value} {n : Nat} {xs : List Value} {H : HL} (h : Row el s v n xs H) : ∃ A c, v = .slice A n c ∧ n ≤ c ∧ c ≤ maxLen ∧ (0 < n → ∃ g junk, A = Option.some ⟨g, 0, none⟩ ∧ H = [⟨g, el, xs ++ junk⟩]) := by
  cases h with
  | nil => exact ⟨none, 0, rfl, Nat.le_refl _, Nat.zero_le _, fun h => by omega⟩
  | own hl hc hn hm => exact ⟨_, _, rfl, hn, hm, fun _ => ⟨_, _, rfl, rfl⟩⟩
/-! what two regions have in common -/
def cmw (a b c d : Int) : Int := min (a + c) (b + d) - max a b
def cmB (ax ay aw ah bx bz bw bh : Int) : Bool := decide (1 ≤ cmw ax bx aw bw) && decide (1 ≤ cmw ay bz ah bh)
def cmT (ax ay aw ah bx bz bw bh : Int) : Rg := if cmB ax ay aw ah bx bz bw bh = true then (max ax bx, max ay bz, cmw ax bx aw bw, cmw ay bz ah bh) else (0, 0, 0, 0)
section
variable {ax ay aw ah bx bz bw bh : Int}
theorem cm_w (h : min (ax + aw) (bx + bw) - max ax bx < 1) : cmB ax ay aw ah bx bz bw bh = false ∧ cmT ax ay aw ah bx bz bw bh = (0, 0, 0, 0) := by
  have hB : cmB ax ay aw ah bx bz bw bh = false := by unfold cmB cmw; rw [decide_eq_false (by omega)]; rfl
  exact ⟨hB, if_neg (by rw [hB]; decide)⟩
theorem cm_h (h : min (ay + ah) (bz + bh) - max ay bz < 1) : cmB ax ay aw ah bx bz bw bh = false ∧ cmT ax ay aw ah bx bz bw bh = (0, 0, 0, 0) := by
  have hB : cmB ax ay aw ah bx bz bw bh = false := by unfold cmB cmw; rw [decide_eq_false (p := 1 ≤ min (ay + ah) (bz + bh) - max ay bz) (by omega), Bool.and_false]
  exact ⟨hB, if_neg (by rw [hB]; decide)⟩
theorem cm_ok (h : ¬ min (ax + aw) (bx + bw) - max ax bx < 1) (h2 : ¬ min (ay + ah) (bz + bh) - max ay bz < 1) : cmB ax ay aw ah bx bz bw bh = true ∧ cmT ax ay aw ah bx bz bw bh = (max ax bx, max ay bz, cmw ax bx aw bw, cmw ay bz ah bh) := by
  have hB : cmB ax ay aw ah bx bz bw bh = true := by unfold cmB cmw; rw [decide_eq_true (by omega), decide_eq_true (by omega)]; rfl
  exact ⟨hB, if_pos hB⟩
end
theorem cm_tile {X Y : Int} {w h s i j : Nat} (hs : 1 ≤ s) (hw : 1 ≤ w) (hh : 1 ≤ h) (hi : i < cntI X w s) (hj : j < cntI Y h s) :
    cmB X Y w h (X - (px X s : Nat) + ((s * i : Nat) : Int)) (Y - (px Y s : Nat) + ((s * j : Nat) : Int)) s s = true ∧ cmT X Y w h (X - (px X s : Nat) + ((s * i : Nat) : Int)) (Y - (px Y s : Nat) + ((s * j : Nat) : Int)) s s = tile X Y w h s i j := by
  have h1 := tw_pos (X := X) hs hw hi
  have h2 := tw_pos (X := Y) hs hh hj
  unfold tw tb at h1 h2
  exact cm_ok (by omega) (by omega)
/-! a region grown -/
def gErr (x y w h n e1 e2 : Int) : Int := if e1 ≠ 0 then e1 else if n < -256 ∨ 256 < n then 3 else e2
def gT (x y w h n e : Int) : Rg := if e = 0 then (x - n, y - n, w + 2 * n, h + 2 * n) else (0, 0, 0, 0)
end Go.Proofs.YtapcgokcfmklbaaDoor
