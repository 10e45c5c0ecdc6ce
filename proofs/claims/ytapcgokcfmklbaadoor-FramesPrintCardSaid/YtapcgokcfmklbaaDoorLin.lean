/-
  Plain law of texts: pieces, lines, numbers in sixteens, rows of pixels. No program in sight. Conditions: as each theorem says.
-/
import Derived.Test.YtapcgokcfmklbaaDoorStr
import Derived.Lib.SplitLaws
import Derived.Lib.AtoiAll
import Derived.Lib.ItoaNum
namespace Go.Proofs.YtapcgokcfmklbaaDoor
open Go Go.RowKit

/-- the pieces of a text -/
def pcs (l sep : List UInt8) : List (List UInt8) := Lib.split l sep
theorem pcs_miss {l sep : List UInt8} (h : Lib.index l sep = -1) : pcs l sep = [l] := by
  unfold pcs Lib.split
  rw [Lib.count_miss h]
  rfl
theorem pcs_hit {l sep : List UInt8} {i : Nat} (hs : sep ≠ []) (h : Lib.index l sep = i) : pcs l sep = l.take i :: pcs (l.drop (i + sep.length)) sep := by
  unfold pcs Lib.split
  rw [Lib.count_hit hs h, Nat.add_comm, Lib.splitK, if_neg (by rw [h]; simp), h]
  rfl
theorem idx_cases (l sep : List UInt8) : Lib.index l sep = -1 ∨ ∃ i : Nat, Lib.index l sep = i ∧ i + sep.length ≤ l.length := by
  rcases Lib.index_spec l sep with ⟨h, _⟩ | ⟨i, h, _⟩
  · exact .inl h
  · exact .inr ⟨i, h, by have := Lib.index_room l sep (by omega); omega⟩
/-- what stands in front of the first sep, what behind it, and whether it is there -/
def cutL (l sep : List UInt8) : List UInt8 := (Lib.cut l sep).1
def cutR (l sep : List UInt8) : List UInt8 := (Lib.cut l sep).2.1
def cutB (l sep : List UInt8) : Bool := (Lib.cut l sep).2.2
theorem cut_T {l sep : List UInt8} (hs : sep ≠ []) (h : cutB l sep = true) : pcs l sep = cutL l sep :: pcs (cutR l sep) sep := by
  unfold cutB Lib.cut at h
  rcases idx_cases l sep with hi | ⟨i, hi, _⟩
  · rw [hi] at h; simp at h
  · rw [pcs_hit hs hi]
    unfold cutL cutR Lib.cut
    rw [hi]
    simp
theorem cut_F {l sep : List UInt8} (h : cutB l sep = false) : pcs l sep = [cutL l sep] ∧ cutL l sep = l ∧ cutR l sep = [] := by
  unfold cutB Lib.cut at h
  rcases idx_cases l sep with hi | ⟨i, hi, _⟩
  · rw [pcs_miss hi]
    unfold cutL cutR Lib.cut
    rw [hi]
    simp
  · rw [hi] at h; simp at h
theorem pcs_ne {l sep : List UInt8} (hs : sep ≠ []) : 0 < (pcs l sep).length := by
  cases h : cutB l sep
  · rw [(cut_F h).1]; simp
  · rw [cut_T hs h]; simp
theorem cutR_len {l sep : List UInt8} : (cutR l sep).length ≤ l.length := by
  unfold cutR Lib.cut
  split <;> simp
theorem cutL_len {l sep : List UInt8} : (cutL l sep).length ≤ l.length := by
  unfold cutL Lib.cut
  split <;> simp
  omega
theorem cut_lt {l sep : List UInt8} (hs : sep ≠ []) (h : cutB l sep = true) : (cutR l sep).length < l.length := by
  unfold cutB Lib.cut at h
  unfold cutR Lib.cut
  rcases idx_cases l sep with hi | ⟨i, hi, hl⟩
  · rw [hi] at h; simp at h
  · have : 0 < sep.length := List.length_pos_iff.2 hs
    rw [hi]
    simp
    omega
theorem pcs_len {sep : List UInt8} (hs : sep ≠ []) : ∀ (n : Nat) (l : List UInt8), l.length ≤ n → (pcs l sep).length ≤ l.length + 1 ∧ ∀ p ∈ pcs l sep, p.length ≤ l.length := by
  intro n
  induction n with
  | zero =>
    intro l hl
    cases h : cutB l sep
    · obtain ⟨h1, h2, _⟩ := cut_F h
      rw [h1, h2]; simp
    · have := cut_lt hs h; omega
  | succ n ih =>
    intro l hl
    cases h : cutB l sep
    · obtain ⟨h1, h2, _⟩ := cut_F h
      rw [h1, h2]; simp
    · have h3 := cut_lt hs h
      have h4 := ih (cutR l sep) (by omega)
      rw [cut_T hs h]
      refine ⟨by simp; omega, fun p hp => ?_⟩
      rcases List.mem_cons.1 hp with rfl | hp
      · exact cutL_len
      · have := h4.2 p hp; omega
theorem pcs_many {l sep : List UInt8} (hs : sep ≠ []) : (pcs l sep).length ≤ l.length + 1 := (pcs_len hs _ l (Nat.le_refl _)).1
theorem pcs_each {l sep p : List UInt8} (hs : sep ≠ []) (h : p ∈ pcs l sep) : p.length ≤ l.length := (pcs_len hs _ l (Nat.le_refl _)).2 p h
theorem pcs_none {sep : List UInt8} (hs : sep ≠ []) : pcs [] sep = [[]] := by
  cases h : cutB [] sep
  · obtain ⟨h1, h2, _⟩ := cut_F h
    rw [h1, h2]
  · have h1 := cut_lt hs h; simp at h1
theorem pcs_one {l sep : List UInt8} (hs : sep ≠ []) (h : pcs l sep = [[]]) : l = [] := by
  cases hb : cutB l sep
  · obtain ⟨h1, h2, _⟩ := cut_F hb
    rw [h1, h2] at h
    simpa using h
  · rw [cut_T hs hb] at h
    have h2 := pcs_ne (l := cutR l sep) hs
    have h3 := congrArg List.length h
    simp at h3
    rw [h3] at h2
    simp at h2
/-- a text behind i lines -/
def txt (l : List UInt8) : Nat → List UInt8
  | 0 => l
  | i + 1 => cutR (txt l i) [10]
/-- the lines of a text -/
def lns (l : List UInt8) : List (List UInt8) := pcs l [10]
def ln (l : List UInt8) (i : Nat) : List UInt8 := (lns l).getD i []
theorem nl : ([10] : List UInt8) ≠ [] := by simp
theorem lns_pos (l : List UInt8) : 0 < (lns l).length := pcs_ne nl
theorem txt_len (l : List UInt8) : ∀ i, (txt l i).length ≤ l.length
  | 0 => Nat.le_refl _
  | i + 1 => Nat.le_trans cutR_len (txt_len l i)
theorem txt_pcs (l : List UInt8) : ∀ i, i < (lns l).length → pcs (txt l i) [10] = (lns l).drop i
  | 0, _ => rfl
  | i + 1, h => by
    have ih := txt_pcs l i (by omega)
    cases hb : cutB (txt l i) [10]
    · rw [(cut_F hb).1] at ih
      have h2 := congrArg List.length ih
      simp at h2
      omega
    · rw [cut_T nl hb] at ih
      have h2 := congrArg List.tail ih
      rw [List.tail_cons, List.tail_drop] at h2
      exact h2
theorem txt_line (l : List UInt8) {i : Nat} (h : i < (lns l).length) : cutL (txt l i) [10] = ln l i := by
  have h1 := txt_pcs l i h
  have h2 : (lns l).drop i = ln l i :: (lns l).drop (i + 1) := by
    unfold ln
    rw [List.drop_eq_getElem_cons h, List.getD_eq_getElem?_getD, List.getElem?_eq_getElem h]
    rfl
  rw [h2] at h1
  cases hb : cutB (txt l i) [10]
  · rw [(cut_F hb).1] at h1
    exact (List.cons.inj h1).1
  · rw [cut_T nl hb] at h1
    exact (List.cons.inj h1).1
theorem txt_more (l : List UInt8) {i : Nat} (h : i < (lns l).length) : cutB (txt l i) [10] = decide (i + 1 < (lns l).length) := by
  have h1 := txt_pcs l i h
  cases hb : cutB (txt l i) [10]
  · rw [(cut_F hb).1] at h1
    have h2 := congrArg List.length h1
    simp at h2
    exact (decide_eq_false (by omega)).symm
  · rw [cut_T nl hb] at h1
    have h2 := congrArg List.length h1
    have h3 := pcs_ne (l := cutR (txt l i) [10]) nl
    simp at h2
    exact (decide_eq_true (by omega)).symm
theorem txt_end (l : List UInt8) {i : Nat} (h : i < (lns l).length) : txt l i = [] ↔ (i + 1 = (lns l).length ∧ ln l i = []) := by
  have h1 := txt_pcs l i h
  have h2 : (lns l).drop i = ln l i :: (lns l).drop (i + 1) := by
    unfold ln
    rw [List.drop_eq_getElem_cons h, List.getD_eq_getElem?_getD, List.getElem?_eq_getElem h]
    rfl
  constructor
  · intro e
    rw [e, pcs_none nl, h2] at h1
    obtain ⟨h3, h4⟩ := List.cons.inj h1
    have h5 := congrArg List.length h4
    simp at h5
    exact ⟨by omega, h3.symm⟩
  · rintro ⟨e1, e2⟩
    rw [h2, e2, List.drop_eq_nil_of_le (by omega)] at h1
    exact pcs_one nl h1
theorem ln_len (l : List UInt8) (i : Nat) : (ln l i).length ≤ l.length := by
  unfold ln
  rw [List.getD_eq_getElem?_getD]
  cases h : (lns l)[i]? with
  | none => simp
  | some p => exact pcs_each nl (List.mem_of_getElem? h)

/-! ### whole numbers -/
def intV (l : List UInt8) : Int := match Lib.atoiAll l with
  | .ok n => n
  | _ => 0
def intB (l : List UInt8) : Bool := match Lib.atoiAll l with
  | .ok n => Lib.itoa n == l
  | _ => false
theorem atoi_bd {l : List UInt8} {n : Int} (h : Lib.atoiAll l = .ok n) : -9223372036854775808 ≤ n ∧ n ≤ 9223372036854775807 := by
  unfold Lib.atoiAll at h
  cases l with
  | nil => cases h
  | cons c r =>
    simp only at h
    split at h
    · cases h
    · cases h
    · rename_i u hu
      split at h
      · cases h
      · rename_i h1
        split at h
        · cases h
        · rename_i h2
          cases h
          split <;> omega
theorem intV_bd (l : List UInt8) : -9223372036854775808 ≤ intV l ∧ intV l ≤ 9223372036854775807 := by
  unfold intV
  split
  · rename_i h; exact atoi_bd h
  · omega

/-! ### numbers in sixteens -/
def digs : List UInt8 := 48 :: 49 :: 50 :: 51 :: 52 :: 53 :: 54 :: 55 :: 56 :: 57 :: 97 :: 98 :: 99 :: 100 :: 101 :: 102 :: []
def hx (c : UInt8) : Int := Lib.indexByte digs c
def hxN (c : UInt8) : Nat := (hx c).toNat
theorem hx_all : ∀ n : Nat, n < 256 → (-1 ≤ hx (UInt8.ofNat n) ∧ hx (UInt8.ofNat n) ≤ 15) ∧ (0 ≤ hx (UInt8.ofNat n) → (48 ≤ n ∧ n ≤ 57 ∧ hx (UInt8.ofNat n) = (n : Int) - 48) ∨ (97 ≤ n ∧ n ≤ 102 ∧ hx (UInt8.ofNat n) = (n : Int) - 87)) := by decide +kernel
theorem hx_bd (c : UInt8) : -1 ≤ hx c ∧ hx c ≤ 15 := by
  have h := (hx_all c.toNat c.toNat_lt).1
  rwa [UInt8.ofNat_toNat] at h
theorem hx_of {c : UInt8} (h0 : 0 ≤ hx c) : (48 ≤ c.toNat ∧ c.toNat ≤ 57 ∧ hx c = (c.toNat : Int) - 48) ∨ (97 ≤ c.toNat ∧ c.toNat ≤ 102 ∧ hx c = (c.toNat : Int) - 87) := by
  have h := (hx_all c.toNat c.toNat_lt).2
  rw [UInt8.ofNat_toNat] at h
  exact h h0
/-- the number -/
def hexN (l : List UInt8) : Nat := l.foldl (fun n c => n * 16 + hxN c) 0
theorem hexN_snoc (l : List UInt8) (c : UInt8) : hexN (l ++ [c]) = hexN l * 16 + hxN c := by simp [hexN]
theorem hexN_lt : ∀ l : List UInt8, hexN l < 16 ^ l.length := by
  intro l
  unfold hexN
  have key : ∀ (l : List UInt8) (a k : Nat), a < 16 ^ k → l.foldl (fun n c => n * 16 + hxN c) a < 16 ^ (k + l.length) := by
    intro l
    induction l with
    | nil => intro a k h; simpa using h
    | cons c l ih =>
      intro a k h
      have h1 := hx_bd c
      have h2 : hxN c ≤ 15 := by unfold hxN; omega
      have h3 : a * 16 + hxN c < 16 ^ (k + 1) := by rw [Nat.pow_succ]; omega
      have h4 := ih _ _ h3
      rw [List.length_cons, show k + (l.length + 1) = k + 1 + l.length by omega]
      exact h4
  have := key l 0 0 (by simp)
  rwa [Nat.zero_add] at this
/-- is each byte one of the sixteen -/
def hexB (l : List UInt8) : Bool := l.all fun c => decide (0 ≤ hx c)
def hxE (l : List UInt8) : Int := if l.length ≠ 8 ∨ hexB l = false then 9 else if nan32 (hexN l) = true ∧ hexN l ≠ 2143289344 then 2 else 0
def hxV (l : List UInt8) : Nat := if hxE l = 0 then hexN l else 0
theorem hxE_len {l : List UInt8} (h : l.length ≠ 8) : hxE l = 9 := if_pos (.inl h)
theorem hxE_bad {l : List UInt8} (h : hexB l = false) : hxE l = 9 := if_pos (.inr h)
theorem hxE_nan {l : List UInt8} (h : l.length = 8) (hb : hexB l = true) (hn : nan32 (hexN l) = true) (h2 : hexN l ≠ 2143289344) : hxE l = 2 := by
  unfold hxE; rw [if_neg (by simp [h, hb]), if_pos ⟨hn, h2⟩]
theorem hxE_ok {l : List UInt8} (h : l.length = 8) (hb : hexB l = true) (hn : ¬ (nan32 (hexN l) = true ∧ hexN l ≠ 2143289344)) : hxE l = 0 := by
  unfold hxE; rw [if_neg (by simp [h, hb]), if_neg hn]
theorem hxE_3 (l : List UInt8) : hxE l = 9 ∨ hxE l = 2 ∨ hxE l = 0 := by
  unfold hxE
  split
  · exact .inl rfl
  · split
    · exact .inr (.inl rfl)
    · exact .inr (.inr rfl)
theorem hexB_not {l : List UInt8} {i : Nat} (hi : i < l.length) (h : hx (l.getD i 0) < 0) : hexB l = false := by
  unfold hexB
  rw [List.all_eq_false]
  refine ⟨l[i], List.getElem_mem hi, ?_⟩
  rw [List.getD_eq_getElem?_getD, List.getElem?_eq_getElem hi] at h
  simpa using h
theorem hexB_all {l : List UInt8} (h : ∀ i, i < l.length → 0 ≤ hx (l.getD i 0)) : hexB l = true := by
  unfold hexB
  rw [List.all_eq_true]
  intro c hc
  obtain ⟨i, hi, rfl⟩ := List.getElem_of_mem hc
  have := h i hi
  rw [List.getD_eq_getElem?_getD, List.getElem?_eq_getElem hi] at this
  exact decide_eq_true this
theorem hexB_at {l : List UInt8} (h : hexB l = true) {i : Nat} (hi : i < l.length) : 0 ≤ hx (l.getD i 0) := by
  rw [List.getD_eq_getElem?_getD, List.getElem?_eq_getElem hi]
  exact of_decide_eq_true (List.all_eq_true.1 h _ (List.getElem_mem hi))
theorem take_snoc {l : List UInt8} {i : Nat} (hi : i < l.length) : l.take (i + 1) = l.take i ++ [l.getD i 0] := by
  rw [List.take_add_one, List.getD_eq_getElem?_getD, List.getElem?_eq_getElem hi]
  rfl
theorem shor {b k : Nat} (hb : b < 268435456) (hk : k < 16) : ib .or .u32 (IntKind.u32.wrap ((b : Int) * 2 ^ (min (4 : Int).toNat 32))) (IntKind.u32.wrap (k : Int)) = .int .u32 ((b * 16 + k : Nat) : Int) := by
  have e1 : IntKind.u32.wrap ((b : Int) * 2 ^ (min (4 : Int).toNat 32)) = ((b * 16 : Nat) : Int) := by
    have : (2 : Int) ^ (min (4 : Int).toNat 32) = 16 := rfl
    rw [this, IntKind.wrap_u32]; omega
  have e2 : IntKind.u32.wrap (k : Int) = (k : Int) := by rw [IntKind.wrap_u32]; omega
  rw [e1, e2]
  unfold ib
  simp only
  have e3 : (BitVec.ofInt IntKind.u32.bits ((b * 16 : Nat) : Int) ||| BitVec.ofInt IntKind.u32.bits (k : Int)).toNat = b * 16 + k := by
    rw [BitVec.toNat_or]
    have a1 : (BitVec.ofInt IntKind.u32.bits ((b * 16 : Nat) : Int)).toNat = b * 16 := by
      show (BitVec.ofInt 32 ((b * 16 : Nat) : Int)).toNat = b * 16
      rw [BitVec.toNat_ofInt]
      omega
    have a2 : (BitVec.ofInt IntKind.u32.bits (k : Int)).toNat = k := by
      show (BitVec.ofInt 32 (k : Int)).toNat = k
      rw [BitVec.toNat_ofInt]
      omega
    rw [a1, a2]
    have := Nat.shiftLeft_add_eq_or_of_lt (b := k) (i := 4) (by omega) b
    rw [Nat.shiftLeft_eq] at this
    exact this.symm
  rw [e3, IntKind.wrap_u32]
  congr 1
  omega

/-! ### rows of pixels -/
def wds (p : List UInt8) : List (List UInt8) := pcs p [32]
def pxs (l : List UInt8) : List (List UInt8) := pcs l (32 :: 124 :: 32 :: [])
def wst (b : Bool) : Int := if b then 2 else 0
def badW (w : List UInt8) : Bool := hxE w == 9
def frmW (w : List UInt8) : Bool := hxE w != 0
def badP (p : List UInt8) : Bool := (wds p).length != 4 || (wds p).any badW
def frmP (p : List UInt8) : Bool := (wds p).any frmW
def valP (p : List UInt8) : List Nat := (wds p).map hxV
def rowE (l : List UInt8) (W : Int) : Int := if ((pxs l).length : Int) ≠ W ∨ (pxs l).any badP = true then 9 else wst ((pxs l).any frmP)
def rowV (l : List UInt8) : List Nat := (pxs l).flatMap valP
theorem any_snoc {α : Type} {f : α → Bool} {l : List α} {i : Nat} {x : α} (h : l[i]? = some x) : (l.take (i + 1)).any f = ((l.take i).any f || f x) := by
  rw [List.take_add_one, h]; simp
theorem flat_snoc {l : List (List UInt8)} {i : Nat} {x : List UInt8} (h : l[i]? = some x) : (l.take (i + 1)).flatMap valP = (l.take i).flatMap valP ++ valP x := by
  rw [List.take_add_one, h]; simp
theorem map_snoc {l : List (List UInt8)} {i : Nat} {x : List UInt8} (h : l[i]? = some x) : (l.take (i + 1)).map hxV = (l.take i).map hxV ++ [hxV x] := by
  rw [List.take_add_one, h]; simp
theorem take_any {α : Type} {f : α → Bool} {l : List α} {i : Nat} (h : l.any f = false) : (l.take i).any f = false := by
  rw [List.any_eq_false] at h ⊢
  exact fun x hx => h x (List.mem_of_mem_take hx)
theorem any_at {α : Type} {f : α → Bool} {l : List α} {i : Nat} {x : α} (h : l[i]? = some x) (hf : f x = true) : l.any f = true := List.any_eq_true.2 ⟨x, List.mem_of_getElem? h, hf⟩
theorem badP_no {p : List UInt8} (h : badP p = false) : (wds p).length = 4 ∧ (wds p).any badW = false := by
  unfold badP at h
  rw [Bool.or_eq_false_iff] at h
  exact ⟨by simpa using h.1, h.2⟩
theorem flat_len {l : List (List UInt8)} (h : l.any badP = false) : (l.flatMap valP).length = 4 * l.length := by
  induction l with
  | nil => rfl
  | cons p l ih =>
    rw [List.any_cons, Bool.or_eq_false_iff] at h
    rw [List.flatMap_cons, List.length_append, ih h.2, List.length_cons]
    have : (valP p).length = 4 := by unfold valP; rw [List.length_map]; exact (badP_no h.1).1
    omega
theorem rowE_many {l : List UInt8} {W : Int} (h : ((pxs l).length : Int) ≠ W) : rowE l W = 9 := if_pos (.inl h)
theorem rowE_bad {l : List UInt8} {W : Int} {i : Nat} {p : List UInt8} (h : (pxs l)[i]? = some p) (hb : badP p = true) : rowE l W = 9 := if_pos (.inr (any_at h hb))
theorem badP_len {p : List UInt8} (h : (wds p).length ≠ 4) : badP p = true := by
  unfold badP
  rw [Bool.or_eq_true]
  exact .inl (by simpa using h)
theorem badP_word {p w : List UInt8} {j : Nat} (h : (wds p)[j]? = some w) (hb : hxE w = 9) : badP p = true := by
  unfold badP
  rw [Bool.or_eq_true]
  exact .inr (any_at h (by unfold badW; rw [hb]; rfl))
theorem rowE_ok {l : List UInt8} {W : Int} (h : ((pxs l).length : Int) = W) (hb : (pxs l).any badP = false) : rowE l W = wst ((pxs l).any frmP) := by
  unfold rowE
  rw [if_neg]
  rintro (h1 | h1)
  · exact h1 h
  · rw [hb] at h1; cases h1
theorem rowE_3 (l : List UInt8) (W : Int) : rowE l W = 9 ∨ rowE l W = 2 ∨ rowE l W = 0 := by
  unfold rowE wst
  split
  · exact .inl rfl
  · split
    · exact .inr (.inl rfl)
    · exact .inr (.inr rfl)
theorem rowE_0 {l : List UInt8} {W : Int} (h : rowE l W = 0) : ((pxs l).length : Int) = W ∧ (pxs l).any badP = false := by
  unfold rowE at h
  split at h
  · cases h
  · rename_i h1
    rw [not_or] at h1
    exact ⟨Decidable.not_not.1 h1.1, by simpa using h1.2⟩
theorem rowV_len {l : List UInt8} (h : (pxs l).any badP = false) : (rowV l).length = 4 * (pxs l).length := flat_len h
end Go.Proofs.YtapcgokcfmklbaaDoor
