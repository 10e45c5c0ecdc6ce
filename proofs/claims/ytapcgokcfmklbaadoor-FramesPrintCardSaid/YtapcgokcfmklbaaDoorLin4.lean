/-
  Plain law of frames written as texts: what is written is read again. No program in sight. Conditions: as each theorem says.
-/
import Derived.Test.YtapcgokcfmklbaaDoorLin3
import Derived.Lib.ItoaLen
namespace Go.Proofs.YtapcgokcfmklbaaDoor
open Go Go.RowKit

theorem hxE_W {x : Nat} (h : x < 4294967296) : hxE (hexW x) = 0 ∧ hxV (hexW x) = cl x := by
  have h1 : cl x < 16 ^ 8 := by
    show cl x < 4294967296
    unfold cl; split <;> omega
  have h2 : hexN (hexW x) = cl x := hexN_hxd 8 _ h1
  have h3 : hxE (hexW x) = 0 := hxE_ok (hexW_len x) (hexB_hxd _ _) (by
    rw [h2, nan_cl]
    rintro ⟨a, b⟩
    exact b (cl_nan a))
  exact ⟨h3, by unfold hxV; rw [if_pos h3, h2]⟩
def bar : List UInt8 := 32 :: 124 :: 32 :: []
/-- a pixel's words -/
def pixT (ys : Nat → Nat) (q : Nat) : List UInt8 := hexW (ys (4 * q)) ++ 32 :: (hexW (ys (4 * q + 1)) ++ 32 :: (hexW (ys (4 * q + 2)) ++ 32 :: hexW (ys (4 * q + 3))))
theorem pix_mem {ys : Nat → Nat} {q : Nat} {c : UInt8} (h : c ∈ pixT ys q) : c = 32 ∨ (48 ≤ c.toNat ∧ c.toNat ≠ 124) := by
  unfold pixT at h
  simp only [List.mem_append, List.mem_cons] at h
  rcases h with h | h | h | h | h | h | h
  · exact .inr ⟨(hxd_mem h).1, (hxd_mem h).2.1⟩
  · exact .inl h
  · exact .inr ⟨(hxd_mem h).1, (hxd_mem h).2.1⟩
  · exact .inl h
  · exact .inr ⟨(hxd_mem h).1, (hxd_mem h).2.1⟩
  · exact .inl h
  · exact .inr ⟨(hxd_mem h).1, (hxd_mem h).2.1⟩
theorem pix_wds (ys : Nat → Nat) (q : Nat) : wds (pixT ys q) = [hexW (ys (4 * q)), hexW (ys (4 * q + 1)), hexW (ys (4 * q + 2)), hexW (ys (4 * q + 3))] := by
  have hn : ∀ x, (32 : UInt8) ∉ hexW x := fun x => hexW_no (.inl (by decide))
  have h := pcs_one_byte (c := 32) (hn (ys (4 * q + 3))) [hexW (ys (4 * q)), hexW (ys (4 * q + 1)), hexW (ys (4 * q + 2))] (by
    intro x hx
    simp only [List.mem_cons, List.not_mem_nil, or_false] at hx
    rcases hx with rfl | rfl | rfl <;> exact hn _)
  have e : pixT ys q = ([hexW (ys (4 * q)), hexW (ys (4 * q + 1)), hexW (ys (4 * q + 2))].flatMap (· ++ [32])) ++ hexW (ys (4 * q + 3)) := by
    unfold pixT
    simp
  unfold wds
  rw [e]
  exact h
theorem pix_ok {ys : Nat → Nat} (hy : ∀ i, ys i < 4294967296) (q : Nat) : badP (pixT ys q) = false ∧ frmP (pixT ys q) = false ∧ valP (pixT ys q) = [cl (ys (4 * q)), cl (ys (4 * q + 1)), cl (ys (4 * q + 2)), cl (ys (4 * q + 3))] := by
  have h := fun i => hxE_W (hy i)
  have hb : ∀ i, badW (hexW (ys i)) = false := fun i => by unfold badW; rw [(h i).1]; rfl
  have hf : ∀ i, frmW (hexW (ys i)) = false := fun i => by unfold frmW; rw [(h i).1]; rfl
  refine ⟨?_, ?_, ?_⟩
  · unfold badP
    rw [pix_wds]
    simp only [List.any_cons, List.any_nil, hb]
    rfl
  · unfold frmP
    rw [pix_wds]
    simp only [List.any_cons, List.any_nil, hf]
    rfl
  · unfold valP
    rw [pix_wds]
    simp only [List.map_cons, List.map_nil, (h _).2]
/-- what follows the k-th number -/
def sepT (W k : Nat) : List UInt8 := if k % (4 * W) = 0 then [10] else if k % 4 = 0 then bar else [32]
def bodyT (W : Nat) (ys : Nat → Nat) : Nat → List UInt8
  | 0 => []
  | i + 1 => bodyT W ys i ++ (hexW (ys i) ++ sepT W (i + 1))
theorem sep_in {W k : Nat} (h : k % 4 ≠ 0) : sepT W k = [32] := by
  unfold sepT
  rw [if_neg (fun e => h (by rw [← Nat.mod_mul_right_mod k 4 W, e])), if_neg h]
theorem sep_px (W q : Nat) : sepT W (4 * (q + 1)) = if (q + 1) % W = 0 then [10] else bar := by
  unfold sepT
  rw [Nat.mul_mod_mul_left]
  by_cases h : (q + 1) % W = 0
  · rw [if_pos (by rw [h]), if_pos h]
  · rw [if_neg (by omega), if_neg h, if_pos (by omega)]
theorem body_px (W : Nat) (ys : Nat → Nat) (q : Nat) : bodyT W ys (4 * (q + 1)) = bodyT W ys (4 * q) ++ (pixT ys q ++ if (q + 1) % W = 0 then [10] else bar) := by
  rw [← sep_px, show 4 * (q + 1) = 4 * q + 3 + 1 by omega]
  unfold pixT
  show bodyT W ys (4 * q + 3) ++ (hexW (ys (4 * q + 3)) ++ sepT W (4 * q + 3 + 1)) = _
  show (((bodyT W ys (4 * q) ++ (hexW (ys (4 * q)) ++ sepT W (4 * q + 1))) ++ (hexW (ys (4 * q + 1)) ++ sepT W (4 * q + 1 + 1))) ++ (hexW (ys (4 * q + 2)) ++ sepT W (4 * q + 2 + 1))) ++ (hexW (ys (4 * q + 3)) ++ sepT W (4 * q + 3 + 1)) = _
  rw [sep_in (k := 4 * q + 1) (by omega), sep_in (k := 4 * q + 1 + 1) (by omega), sep_in (k := 4 * q + 2 + 1) (by omega)]
  simp
/-- a row's text -/
def rowT (W : Nat) (ys : Nat → Nat) (r : Nat) : List UInt8 := ((List.range (W - 1)).flatMap fun j => pixT ys (W * r + j) ++ bar) ++ pixT ys (W * r + (W - 1))
theorem body_part {W : Nat} (ys : Nat → Nat) (r : Nat) : ∀ c, c < W → bodyT W ys (4 * (W * r + c)) = bodyT W ys (4 * (W * r)) ++ (List.range c).flatMap fun j => pixT ys (W * r + j) ++ bar
  | 0, _ => by simp
  | c + 1, h => by
    rw [← Nat.add_assoc, body_px, body_part ys r c (by omega), if_neg (by rw [Nat.add_assoc, Nat.mul_add_mod, Nat.mod_eq_of_lt h]; omega), List.range_succ]
    simp
theorem body_line {W : Nat} (hW : 0 < W) (ys : Nat → Nat) (r : Nat) : bodyT W ys (4 * (W * (r + 1))) = bodyT W ys (4 * (W * r)) ++ (rowT W ys r ++ [10]) := by
  obtain ⟨w, rfl⟩ : ∃ w, W = w + 1 := ⟨W - 1, by omega⟩
  have e : (w + 1) * (r + 1) = (w + 1) * r + w + 1 := by rw [Nat.mul_add]; omega
  rw [e, body_px, body_part ys r w (by omega), ← e, if_pos (Nat.mul_mod_right _ _)]
  unfold rowT
  simp
theorem body_all {W : Nat} (hW : 0 < W) (ys : Nat → Nat) : ∀ h, bodyT W ys (4 * (W * h)) = ((List.range h).map (rowT W ys)).flatMap (· ++ [10])
  | 0 => rfl
  | h + 1 => by
    rw [body_line hW, body_all hW ys h, List.range_succ]
    simp
theorem row_mem {W : Nat} {ys : Nat → Nat} {r : Nat} {c : UInt8} (h : c ∈ rowT W ys r) : c = 32 ∨ 48 ≤ c.toNat := by
  have hp : ∀ q, c ∈ pixT ys q → c = 32 ∨ 48 ≤ c.toNat := fun q hq => by
    rcases pix_mem hq with h1 | h1
    · exact .inl h1
    · exact .inr h1.1
  unfold rowT at h
  rcases List.mem_append.1 h with h | h
  · obtain ⟨j, _, hj⟩ := List.mem_flatMap.1 h
    rcases List.mem_append.1 hj with hj | hj
    · exact hp _ hj
    · unfold bar at hj
      simp only [List.mem_cons, List.not_mem_nil, or_false] at hj
      rcases hj with rfl | rfl | rfl
      · exact .inl rfl
      · exact .inr (by decide)
      · exact .inl rfl
  · exact hp _ h
theorem row_pxs {W : Nat} (hW : 0 < W) (ys : Nat → Nat) (r : Nat) : pxs (rowT W ys r) = (List.range W).map fun j => pixT ys (W * r + j) := by
  obtain ⟨w, rfl⟩ : ∃ w, W = w + 1 := ⟨W - 1, by omega⟩
  have hn : ∀ q, (124 : UInt8) ∉ pixT ys q := fun q hq => by
    rcases pix_mem hq with h1 | h1
    · exact absurd h1 (by decide)
    · exact h1.2 rfl
  have h := pcs_bar (hn ((w + 1) * r + w)) ((List.range w).map fun j => pixT ys ((w + 1) * r + j)) (fun x hx => by
    obtain ⟨j, _, rfl⟩ := List.mem_map.1 hx
    exact hn _)
  rw [List.range_succ, List.map_append]
  unfold pxs rowT
  rw [List.flatMap_map] at h
  exact h
theorem row_ok {W : Nat} (hW : 0 < W) {ys : Nat → Nat} (hy : ∀ i, ys i < 4294967296) (r : Nat) : rowE (rowT W ys r) (W : Int) = 0 ∧ rowV (rowT W ys r) = (List.range W).flatMap fun j => [cl (ys (4 * (W * r + j))), cl (ys (4 * (W * r + j) + 1)), cl (ys (4 * (W * r + j) + 2)), cl (ys (4 * (W * r + j) + 3))] := by
  constructor
  · have hb : (pxs (rowT W ys r)).any badP = false := by
      rw [row_pxs hW, List.any_eq_false]
      intro x hx
      obtain ⟨j, _, rfl⟩ := List.mem_map.1 hx
      rw [(pix_ok hy _).1]
      simp
    have hf : (pxs (rowT W ys r)).any frmP = false := by
      rw [row_pxs hW, List.any_eq_false]
      intro x hx
      obtain ⟨j, _, rfl⟩ := List.mem_map.1 hx
      rw [(pix_ok hy _).2.1]
      simp
    rw [rowE_ok (by rw [row_pxs hW]; simp) hb, hf]
    rfl
  · unfold rowV
    rw [row_pxs hW, List.flatMap_map]
    congr 1
    funext j
    exact (pix_ok hy _).2.2
/-- the numbers, cleaned -/
def clV (ys : Nat → Nat) (n : Nat) : List Nat := (List.range n).map fun i => cl (ys i)
theorem clV_succ (ys : Nat → Nat) (n : Nat) : clV ys (n + 1) = clV ys n ++ [cl (ys n)] := by
  unfold clV; rw [List.range_succ]; simp
theorem clV_px (ys : Nat → Nat) (q : Nat) : clV ys (4 * (q + 1)) = clV ys (4 * q) ++ [cl (ys (4 * q)), cl (ys (4 * q + 1)), cl (ys (4 * q + 2)), cl (ys (4 * q + 3))] := by
  rw [show 4 * (q + 1) = 4 * q + 3 + 1 by omega, clV_succ, clV_succ, clV_succ, clV_succ]
  simp
theorem clV_part (ys : Nat → Nat) (a : Nat) : ∀ c, clV ys (4 * (a + c)) = clV ys (4 * a) ++ (List.range c).flatMap fun j => [cl (ys (4 * (a + j))), cl (ys (4 * (a + j) + 1)), cl (ys (4 * (a + j) + 2)), cl (ys (4 * (a + j) + 3))]
  | 0 => by simp
  | c + 1 => by
    rw [← Nat.add_assoc, clV_px, clV_part ys a c, List.range_succ]
    simp
/-- a frame's text -/
def headT (x y w h : Int) : List UInt8 := frameB ++ 32 :: (Lib.itoa x ++ 32 :: (Lib.itoa y ++ 32 :: (Lib.itoa w ++ 32 :: Lib.itoa h)))
def prtT (x y : Int) (w h : Nat) (ys : Nat → Nat) : List UInt8 := headT x y w h ++ 10 :: bodyT w ys (4 * (w * h))
theorem head_no (x y w h : Int) : (10 : UInt8) ∉ headT x y w h := by
  have hn : ∀ n : Int, (10 : UInt8) ∉ Lib.itoa n := fun n => itoa_no (by decide)
  unfold headT
  simp only [List.mem_append, List.mem_cons, not_or]
  exact ⟨by decide, by decide, hn _, by decide, hn _, by decide, hn _, by decide, hn _⟩
theorem head_wds (x y w h : Int) : wds (headT x y w h) = [frameB, Lib.itoa x, Lib.itoa y, Lib.itoa w, Lib.itoa h] := by
  have hn : ∀ n : Int, (32 : UInt8) ∉ Lib.itoa n := fun n => itoa_no (by decide)
  have h1 := pcs_one_byte (c := 32) (hn h) [frameB, Lib.itoa x, Lib.itoa y, Lib.itoa w] (by
    intro z hz
    simp only [List.mem_cons, List.not_mem_nil, or_false] at hz
    rcases hz with rfl | rfl | rfl | rfl
    · decide
    · exact hn _
    · exact hn _
    · exact hn _)
  have e : headT x y w h = ([frameB, Lib.itoa x, Lib.itoa y, Lib.itoa w].flatMap (· ++ [32])) ++ Lib.itoa h := by
    unfold headT
    simp
  unfold wds
  rw [e]
  exact h1
theorem prt_lns (x y : Int) {w : Nat} (hw : 0 < w) (h : Nat) (ys : Nat → Nat) : lns (prtT x y w h ys) = headT x y w h :: ((List.range h).map (rowT w ys) ++ [[]]) := by
  have h1 := pcs_one_byte (c := 10) (z := []) (by simp) (headT x y w h :: (List.range h).map (rowT w ys)) (by
    intro z hz
    rcases List.mem_cons.1 hz with rfl | hz
    · exact head_no _ _ _ _
    · obtain ⟨r, _, rfl⟩ := List.mem_map.1 hz
      intro h10
      rcases row_mem h10 with h2 | h2
      · exact absurd h2 (by decide)
      · exact absurd h2 (by decide))
  have e : prtT x y w h ys = ((headT x y w h :: (List.range h).map (rowT w ys)).flatMap (· ++ [10])) ++ [] := by
    unfold prtT
    rw [body_all hw, List.flatMap_cons]
    simp
  unfold lns
  rw [e]
  exact h1
theorem prt_ln0 (x y : Int) {w : Nat} (hw : 0 < w) (h : Nat) (ys : Nat → Nat) : ln (prtT x y w h ys) 0 = headT x y w h := by
  unfold ln; rw [prt_lns x y hw]; rfl
theorem prt_lnr (x y : Int) {w : Nat} (hw : 0 < w) {h r : Nat} (hr : r < h) (ys : Nat → Nat) : ln (prtT x y w h ys) (r + 1) = rowT w ys r := by
  unfold ln
  rw [prt_lns x y hw, List.getD_cons_succ, List.getD_eq_getElem?_getD, List.getElem?_append_left (by simpa using hr)]
  simp [hr]
theorem prt_lne (x y : Int) {w : Nat} (hw : 0 < w) (h : Nat) (ys : Nat → Nat) : ln (prtT x y w h ys) (h + 1) = [] := by
  unfold ln
  rw [prt_lns x y hw, List.getD_cons_succ, List.getD_eq_getElem?_getD, List.getElem?_append_right (by simp)]
  simp
theorem prt_count (x y : Int) {w : Nat} (hw : 0 < w) (h : Nat) (ys : Nat → Nat) : (lns (prtT x y w h ys)).length = h + 2 := by
  rw [prt_lns x y hw]; simp
theorem prt_hd {x y : Int} {w h : Nat} (hw : 0 < w) (ys : Nat → Nat) (hx : -1000000 ≤ x ∧ x ≤ 1000000) (hy : -1000000 ≤ y ∧ y ≤ 1000000) (hw2 : w ≤ 1000000) (hh2 : h ≤ 1000000) :
    hdB (ln (prtT x y w h ys) 0) = true ∧ tX (prtT x y w h ys) 0 = x ∧ tX (prtT x y w h ys) 1 = y ∧ tX (prtT x y w h ys) 2 = w ∧ tX (prtT x y w h ys) 3 = h := by
  have e := head_wds x y w h
  have hk : ∀ k, wd (headT x y w h) k = [frameB, Lib.itoa x, Lib.itoa y, Lib.itoa w, Lib.itoa h].getD k [] := fun k => by unfold wd; rw [e]
  unfold tX hdV
  rw [prt_ln0 x y hw]
  refine ⟨hdB_ok (by rw [e]; rfl) (by rw [hk]; rfl) (fun k hk4 => ?_), ?_, ?_, ?_, ?_⟩
  · rw [hk]
    match k, hk4 with
    | 0, _ => exact intB_itoa hx
    | 1, _ => exact intB_itoa hy
    | 2, _ => exact intB_itoa (n := (w : Int)) (by omega)
    | 3, _ => exact intB_itoa (n := (h : Int)) (by omega)
  · rw [hk]; exact intV_itoa hx
  · rw [hk]; exact intV_itoa hy
  · rw [hk]; exact intV_itoa (n := (w : Int)) (by omega)
  · rw [hk]; exact intV_itoa (n := (h : Int)) (by omega)
theorem sep_len (W k : Nat) : (sepT W k).length ≤ 3 := by
  unfold sepT bar
  split
  · simp
  · split <;> simp
theorem body_len (W : Nat) (ys : Nat → Nat) : ∀ i, (bodyT W ys i).length ≤ 11 * i
  | 0 => Nat.le_refl _
  | i + 1 => by
    have h1 := body_len W ys i
    have h2 := sep_len W (i + 1)
    show (bodyT W ys i ++ (hexW (ys i) ++ sepT W (i + 1))).length ≤ _
    rw [List.length_append, List.length_append, hexW_len]
    omega
theorem head_len {x y w h : Int} (hx : -1000000 ≤ x ∧ x ≤ 1000000) (hy : -1000000 ≤ y ∧ y ≤ 1000000) (hw : -1000000 ≤ w ∧ w ≤ 1000000) (hh : -1000000 ≤ h ∧ h ≤ 1000000) : (headT x y w h).length ≤ 93 := by
  have h1 := Lib.itoa_length_le x (by omega) (by omega)
  have h2 := Lib.itoa_length_le y (by omega) (by omega)
  have h3 := Lib.itoa_length_le w (by omega) (by omega)
  have h4 := Lib.itoa_length_le h (by omega) (by omega)
  unfold headT frameB
  simp only [List.length_append, List.length_cons, List.length_nil]
  omega
theorem prt_ok {x y : Int} {w h : Nat} {ys : Nat → Nat} (hy32 : ∀ i, ys i < 4294967296) (hx : -1000000 ≤ x ∧ x ≤ 1000000) (hy : -1000000 ≤ y ∧ y ≤ 1000000) (hw : 0 < w) (hwh : w * h ≤ 64) (hw2 : w ≤ 64) (hh2 : h ≤ 64) (hr : regErr x y w h = 0) :
    prsR (prtT x y w h ys) = (0, 0) ∧ rowsV (prtT x y w h ys) (tX (prtT x y w h ys) 3).toNat = clV ys (4 * (w * h)) := by
  obtain ⟨h1, h2, h3, h4, h5⟩ := prt_hd (h := h) hw ys hx hy (by omega) (by omega)
  have hN : (tX (prtT x y w h ys) 3).toNat = h := by rw [h5]; rfl
  have hl : (prtT x y w h ys).length ≤ 1048576 := by
    have a1 := body_len w ys (4 * (w * h))
    have a2 := head_len (w := w) (h := h) hx hy (by omega) (by omega)
    unfold prtT
    rw [List.length_append, List.length_cons]
    omega
  have hz : ∀ j, j < h → badE (prtT x y w h ys) (tX (prtT x y w h ys) 2) (j + 1) = 0 := fun j hj => by
    rw [badE_T (by rw [prt_count x y hw]; omega), prt_lnr x y hw hj, h4]
    exact (row_ok hw hy32 j).1
  refine ⟨prs_ok (by omega) (by rw [prt_count x y hw]; omega) h1 (by unfold tReg; rw [h2, h3, h4, h5]; exact hr) (by rw [hN]; exact hz) (endB_T (by rw [hN, prt_count x y hw]) (by rw [hN]; exact prt_lne x y hw h ys)), ?_⟩
  rw [hN]
  have key : ∀ r, r ≤ h → rowsV (prtT x y w h ys) r = clV ys (4 * (w * r)) := by
    intro r
    induction r with
    | zero => intro _; rfl
    | succ r ih =>
      intro hr'
      rw [rowsV_succ, ih (by omega), prt_lnr x y hw (by omega), (row_ok hw hy32 r).2, Nat.mul_succ, clV_part ys (w * r) w]
  exact key h (Nat.le_refl _)
end Go.Proofs.YtapcgokcfmklbaaDoor
