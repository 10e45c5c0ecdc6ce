/-
  Contracts: time codes read. Conditions: as each theorem says.
-/
import Derived.Test.YtapcgokcfmklbaaDoorD3
namespace Go.Proofs.YtapcgokcfmklbaaDoor
open Go Go.Proofs Go.RowKit

theorem ty139 : tyChk Tryd.prog 139 = some ([.int .i64 0, .int .i64 0, .int .i64 0, .int .i64 0], true, 32) := by kernel_rfl

theorem str_at {l : List UInt8} {i : Nat} (h : i < l.length) : l[((i : Nat) : Int).toNat]? = some (l.getD i 0) := by
  rw [Int.toNat_natCast, List.getD_eq_getElem?_getD, List.getElem?_eq_getElem h]; rfl
def formL (r : Int) : List UInt8 := [48, 48, 58, 48, 48, 58, 48, 48, sepB r, 48, 48]
theorem form_at {r : Int} {i : Nat} (h : i < 11) : (formL r)[((i : Nat) : Int).toNat]? = some (formB r i) := by
  rw [Int.toNat_natCast]
  match i, h with
  | 0, _ => rfl
  | 1, _ => rfl
  | 2, _ => rfl
  | 3, _ => rfl
  | 4, _ => rfl
  | 5, _ => rfl
  | 6, _ => rfl
  | 7, _ => rfl
  | 8, _ => rfl
  | 9, _ => rfl
  | 10, _ => rfl
/-- the numbers read behind i bytes -/
def pa (l : List UInt8) (i k : Nat) : Nat := if 3 * k + 2 ≤ i then fld l k else if 3 * k + 1 ≤ i then (l.getD (3 * k) 0).toNat - 48 else 0
def paL (l : List UInt8) (i : Nat) : List Value := [iv (pa l i 0 : Nat), iv (pa l i 1 : Nat), iv (pa l i 2 : Nat), iv (pa l i 3 : Nat)]
theorem paL_at {l : List UInt8} {i k : Nat} (h : k < 4) : (paL l i)[k]? = some (iv (pa l i k : Nat)) := idx4 (fun k => iv (pa l i k : Nat)) k h
theorem pa_bd (l : List UInt8) (i k : Nat) : pa l i k ≤ 3000 := by
  have h : ∀ b : UInt8, b.toNat < 256 := fun b => b.toNat_lt
  unfold pa fld num2
  have := h (l.getD (3 * k) 0)
  have := h (l.getD (3 * k + 1) 0)
  split
  · omega
  · split <;> omega
theorem pa_first {l : List UInt8} {i k : Nat} (h : i = 3 * k) : 10 * pa l i k + ((l.getD i 0).toNat - 48) = pa l (i + 1) k := by
  subst h; unfold pa; rw [if_neg (by omega), if_neg (by omega), if_neg (by omega), if_pos (by omega)]; omega
theorem pa_second {l : List UInt8} {i k : Nat} (h : i = 3 * k + 1) : 10 * pa l i k + ((l.getD i 0).toNat - 48) = pa l (i + 1) k := by
  subst h; unfold pa fld num2; rw [if_neg (by omega), if_pos (by omega), if_pos (by omega)]
theorem pa_other {l : List UInt8} {i k : Nat} (h : i % 3 = 2 ∨ k ≠ i / 3) : pa l i k = pa l (i + 1) k := by
  unfold pa
  by_cases h1 : 3 * k + 2 ≤ i
  · rw [if_pos h1, if_pos (by omega)]
  · rw [if_neg h1]
    by_cases h2 : 3 * k + 1 ≤ i
    · rw [if_pos h2, if_neg (by omega), if_pos (by omega)]
    · rw [if_neg h2, if_neg (by omega), if_neg (by omega)]
theorem pa_set {l : List UInt8} {i : Nat} (hi : i < 11) (h : i % 3 ≠ 2) : (paL l i).set (i / 3) (iv ((10 * pa l i (i / 3) + ((l.getD i 0).toNat - 48) : Nat) : Int)) = paL l (i + 1) := by
  have e : 10 * pa l i (i / 3) + ((l.getD i 0).toNat - 48) = pa l (i + 1) (i / 3) := by
    rcases (show i = 3 * (i / 3) ∨ i = 3 * (i / 3) + 1 by omega) with h1 | h1
    · exact pa_first h1
    · exact pa_second h1
  rw [e]
  have hk : i / 3 < 4 := by omega
  have ho : ∀ k, k ≠ i / 3 → pa l i k = pa l (i + 1) k := fun k hk => pa_other (.inr hk)
  unfold paL
  generalize i / 3 = q at *
  match q, hk with
  | 0, _ => rw [ho 1 (by omega), ho 2 (by omega), ho 3 (by omega)]; rfl
  | 1, _ => rw [ho 0 (by omega), ho 2 (by omega), ho 3 (by omega)]; rfl
  | 2, _ => rw [ho 0 (by omega), ho 1 (by omega), ho 3 (by omega)]; rfl
  | 3, _ => rw [ho 0 (by omega), ho 1 (by omega), ho 2 (by omega)]; rfl
theorem pa_skip {l : List UInt8} {i : Nat} (h : i % 3 = 2) : paL l i = paL l (i + 1) := by
  unfold paL
  rw [pa_other (k := 0) (.inl h), pa_other (k := 1) (.inl h), pa_other (k := 2) (.inl h), pa_other (k := 3) (.inl h)]
theorem dg_T {b : UInt8} (h : (48 : Int) ≤ (b.toNat : Int)) : decide ((b.toNat : Int) ≤ 57) = dg b := decide_eq_decide.2 (by omega)
theorem dg_F {b : UInt8} (h : ¬ (48 : Int) ≤ (b.toNat : Int)) : false = dg b := (decide_eq_false (by omega)).symm
theorem dg_no {b : UInt8} (h : (b.toNat : Int) < 48 ∨ 57 < (b.toNat : Int)) : dg b = false := decide_eq_false (by omega)
theorem dg_yes {b : UInt8} (h : ¬ (b.toNat : Int) < 48) (h2 : ¬ 57 < (b.toNat : Int)) : dg b = true := decide_eq_true (by omega)
theorem sep_ne (r : Int) : (sepB r).toNat = 58 ∨ (sepB r).toNat = 59 := by unfold sepB; split <;> simp
theorem formB_ne {r : Int} {j : Nat} (h : j % 3 = 2) : (formB r j).toNat = 58 ∨ (formB r j).toNat = 59 := by
  unfold formB; rw [if_pos h]
  split
  · exact sep_ne r
  · exact .inl rfl
theorem formB_eq {r : Int} {j : Nat} (h : ¬ j % 3 = 2) : (formB r j).toNat = 48 := by unfold formB; rw [if_neg h]; rfl
theorem chk_e1 {r : Int} {l : List UInt8} {j : Nat} (h : ((formB r j).toNat : Int) ≠ 48) (h2 : ((l.getD j 0).toNat : Int) ≠ ((formB r j).toNat : Int)) : chk r l j = false := by
  unfold chk
  by_cases hj : j % 3 = 2
  · rw [if_pos hj, beq_eq_false_iff_ne]
    exact fun e => h2 (by rw [e])
  · exact absurd (by rw [formB_eq hj]; rfl) h
theorem chk_e2 {r : Int} {l : List UInt8} {j : Nat} (h : ((formB r j).toNat : Int) = 48) (h2 : dg (l.getD j 0) = false) : chk r l j = false := by
  unfold chk
  by_cases hj : j % 3 = 2
  · have := formB_ne (r := r) hj; omega
  · rw [if_neg hj]; exact h2
theorem chk_k1 {r : Int} {l : List UInt8} {j : Nat} (h : ((formB r j).toNat : Int) ≠ 48) (h2 : ((l.getD j 0).toNat : Int) = ((formB r j).toNat : Int)) : chk r l j = true := by
  unfold chk
  by_cases hj : j % 3 = 2
  · rw [if_pos hj, beq_iff_eq]
    exact UInt8.toNat_inj.1 (by omega)
  · exact absurd (by rw [formB_eq hj]; rfl) h
theorem chk_k2 {r : Int} {l : List UInt8} {j : Nat} (h : ((formB r j).toNat : Int) = 48) (h2 : dg (l.getD j 0) = true) : chk r l j = true := by
  unfold chk
  by_cases hj : j % 3 = 2
  · have := formB_ne (r := r) hj; omega
  · rw [if_neg hj]; exact h2
theorem dg_chk {r : Int} {l : List UInt8} {j : Nat} (hc : chk r l j = true) (hd : dg (l.getD j 0) = true) : j % 3 ≠ 2 := by
  intro hj
  unfold chk at hc
  rw [if_pos hj, beq_iff_eq] at hc
  have := formB_ne (r := r) hj
  rw [hc] at hd
  have := of_decide_eq_true hd
  omega
theorem nd_chk {r : Int} {l : List UInt8} {j : Nat} (hc : chk r l j = true) (hd : dg (l.getD j 0) = false) : j % 3 = 2 := by
  rcases Nat.decEq (j % 3) 2 with h | h
  · unfold chk at hc; rw [if_neg h, hd] at hc; cases hc
  · exact h
theorem u8_sub {b : UInt8} (hd : dg b = true) : IntKind.u8.wrap ((b.toNat : Int) - 48) = ((b.toNat - 48 : Nat) : Int) := by
  have := of_decide_eq_true hd
  rw [IntKind.wrap_u8]; omega
def prsVal (r : Int) (l : List UInt8) : Value := .tuple #[.agg #[iv (prsV r l 0), iv (prsV r l 1), iv (prsV r l 2), iv (prsV r l 3)], iv (prsE r l)]
theorem prs_err {r e : Int} {l : List UInt8} (h : prsE r l = e) (he : e ≠ 0) : Value.tuple #[.agg #[iv 0, iv 0, iv 0, iv 0], iv e] = prsVal r l := by
  subst h
  have : ∀ k, prsV r l k = 0 := fun k => if_neg he
  unfold prsVal
  rw [this, this, this, this]
theorem prs_ok {r : Int} {l : List UInt8} (h : prsE r l = 0) : Value.tuple #[.agg #[iv (fld l 0 : Nat), iv (fld l 1 : Nat), iv (fld l 2 : Nat), iv (fld l 3 : Nat)], iv 0] = prsVal r l := by
  have : ∀ k, prsV r l k = (fld l k : Int) := fun k => if_pos h
  unfold prsVal
  rw [this, this, this, this, h]
theorem prsE_1 {r : Int} {l : List UInt8} (h : sec r = 0) : prsE r l = 1 := if_pos h
theorem prsE_9a {r : Int} {l : List UInt8} (h : sec r ≠ 0) (h2 : ¬ (l.length : Int) = 11) : prsE r l = 9 := by
  unfold prsE; rw [if_neg h, if_pos (fun hh => h2 (by omega))]
theorem prsE_9b {r : Int} {l : List UInt8} (h : sec r ≠ 0) {j : Nat} (hj : j < 11) (h2 : chk r l j = false) : prsE r l = 9 := by
  unfold prsE; rw [if_neg h, if_pos]
  intro hh
  rw [chkAll_iff.1 hh.2 j hj] at h2; cases h2
theorem prsE_c {r : Int} {l : List UInt8} (h : sec r ≠ 0) (h2 : l.length = 11) (h3 : ∀ j, j < 11 → chk r l j = true) : prsE r l = codE r (fld l 0) (fld l 1) (fld l 2) (fld l 3) := by
  unfold prsE; rw [if_neg h, if_neg (Decidable.not_not.2 ⟨h2, chkAll_iff.2 h3⟩)]
theorem form_T {r : Int} (e : r = 29) : sv [48, 48, 58, 48, 48, 58, 48, 48, 59, 48, 48] = sv (formL r) := by subst e; rfl
theorem form_F {r : Int} (e : ¬ r = 29) : sv [48, 48, 58, 48, 48, 58, 48, 48, 58, 48, 48] = sv (formL r) := by unfold formL sepB; rw [if_neg e]

set_option maxHeartbeats 4000000 in
set_option maxRecDepth 100000 in
theorem parseCode (rate : Int) (l : List UInt8) (W : World) (hl : l.length ≤ maxLen) : Fn_ Tryd.prog 32 #[iv rate, sv l] W (fun v H => v = prsVal rate l ∧ H = []) := by
  unfold maxLen at hl
  refine Fn_.intro Tryd.func32 rfl rfl (by rfl) ?_
  refine CS.seq ?_
  refine CS.region ?_
  refine RS.alloc rfl ty59 ?_
  intro g4
  refine RS.q rfl (QO.assign) ?_
  refine RS.nil ?_
  refine thenC_n ?_
  refine CS.seq ?_
  refine CS.seq ?_
  refine CS.region ?_
  refine RS.q rfl (QO.move) ?_
  refine RS.call rfl (by rfl) ok93 (by rfl) (fun w ho => isRate _ _) ?_
  rintro _ _ ⟨rfl, rfl⟩
  refine RS.q rfl (QO.not (by rfl)) ?_
  refine RS.nil ?_
  refine thenC_n ?_
  refine CS.cond (by rfl) (fun hb0 => ?_) (fun hb0 => ?_)
  · have hb0p := Eq.mp (Bool.not_eq_true' _) hb0
    refine CS.seq ?_
    refine CS.region ?_
    refine RS.q rfl (QO.build ty59 pl59 (by rfl)) ?_
    first | refine RS.storeB ty59 (by rfl) (by rfl) (by rfl) (by rfl) (by rfl) (by repeat (first | exact Upd.head | apply Upd.tail)) (by rfl) ?_ | refine RS.storeP ty59 (by rfl) (by rfl) (by rfl) (by rfl) (by rfl) (by repeat (first | exact Upd.head | apply Upd.tail)) (by rfl) ?_
    refine RS.q rfl (QO.assign) ?_
    refine RS.nil ?_
    refine thenC_n ?_
    refine CS.ret ?_
    refine thenC_r ?_
    refine retQ.mk (H' := []) (.inr rfl) (RVs.cellA ty59 (by rfl) (by repeat (first | exact List.Mem.head _ | refine List.Mem.tail _ ?_)) (by rfl) (RVs.tmp (by rfl) RVs.nil)) (List.nil_sublist _) ?_
    first | exact ⟨prs_err (prsE_1 (Decidable.not_not.1 (of_decide_eq_false hb0p))) (by decide), rfl⟩ | exact ⟨prs_err (prsE_9b hs (j := i) (by omega) (by first | exact chk_e1 (by assumption) (by assumption) | exact chk_e2 (by assumption) (by assumption) | (exfalso; omega))) (by decide), rfl⟩ | exact ⟨prs_err (prsE_9a hs (by omega)) (by decide), rfl⟩ | exact ⟨prs_err (prsE_c hs hl11 hall2) (by assumption), rfl⟩ | exact ⟨prs_ok ((prsE_c hs hl11 hall2).trans (of_bne_false (by assumption))), rfl⟩
  · have hb0p := Eq.mp (Bool.not_eq_false' _) hb0
    refine CS.skip ?_
    refine thenC_n ?_
    refine CS.seq ?_
    refine CS.region ?_
    refine RS.q rfl (QO.assign) ?_
    refine RS.nil ?_
    refine thenC_n ?_
    refine CS.cut (X := Unit) [6, 16, 17] (fun z => [(6, sv (formL rate))]) (fun z => [⟨g4, 59, [iv 0, iv 0, iv 0, iv 0]⟩]) (fun z => True) ?_ ?_
    · refine CS.seq ?_
      refine CS.region ?_
      have hs : sec rate ≠ 0 := of_decide_eq_true hb0p
      refine RS.q rfl (QO.move) ?_
      refine RS.q rfl (QO.eql (by rfl) (by rfl)) ?_
      refine RS.nil ?_
      refine thenC_n ?_
      refine CS.cond (by rfl) (fun hb1 => ?_) (fun hb1 => ?_)
      · have hb1p := eq_of_beq hb1
        refine CS.region ?_
        refine RS.q rfl (QO.assign) ?_
        refine RS.nil ?_
        refine cutQ_n (by intro t ht; repeat (first | with_reducible exact rfl | exact frame_puts ht (frame_mix ht) _ rfl | (refine frame_put rfl ht ?_) | (refine frame_puts ht ?_ _ rfl) | exact frame_mix ht | (refine frame_mix2 rfl ht ?_) | exact rfl)) ?_
        exact ⟨(), trivial, kn_cons (form_T (by assumption)) kn_nil, (by repeat (first | exact List.Sublist.refl _ | exact List.nil_sublist _ | refine List.Sublist.cons_cons _ ?_ | refine List.Sublist.cons _ ?_ | exact Sbp.refl | exact Sbp.nil | refine Sbp.cons (by repeat (first | exact Rem.head | apply Rem.tail)) ?_ | exact Sbp.app | refine Sbp.skip ?_))⟩
      · have hb1p := ne_of_beq_false hb1
        refine CS.skip ?_
        refine cutQ_n (by intro t ht; repeat (first | with_reducible exact rfl | exact frame_puts ht (frame_mix ht) _ rfl | (refine frame_put rfl ht ?_) | (refine frame_puts ht ?_ _ rfl) | exact frame_mix ht | (refine frame_mix2 rfl ht ?_) | exact rfl)) ?_
        exact ⟨(), trivial, kn_cons (form_F (by assumption)) kn_nil, (by repeat (first | exact List.Sublist.refl _ | exact List.nil_sublist _ | refine List.Sublist.cons_cons _ ?_ | refine List.Sublist.cons _ ?_ | exact Sbp.refl | exact Sbp.nil | refine Sbp.cons (by repeat (first | exact Rem.head | apply Rem.tail)) ?_ | exact Sbp.app | refine Sbp.skip ?_))⟩
    · intro z gj hz
      have hs : sec rate ≠ 0 := of_decide_eq_true hb0p
      clear hz
      refine CS.seq ?_
      refine CS.seq ?_
      refine CS.region ?_
      refine RS.q rfl (QO.move) ?_
      refine RS.q rfl (QO.lenStr Tryd.underlying9 (by rfl)) ?_
      refine RS.q rfl (QO.move) ?_
      refine RS.qv rfl (QO.lenStr Tryd.underlying9 (by rfl)) (congrArg iv (show ((formL rate).length : Int) = 11 from rfl)) ?_
      refine RS.q rfl (QO.neq (by rfl) (by rfl)) ?_
      refine RS.nil ?_
      refine thenC_n ?_
      refine CS.cond (by rfl) (fun hb2 => ?_) (fun hb2 => ?_)
      · have hb2p := bne_iff_ne.1 hb2
        refine CS.seq ?_
        refine CS.region ?_
        refine RS.q rfl (QO.build ty59 pl59 (by rfl)) ?_
        first | refine RS.storeB ty59 (by rfl) (by rfl) (by rfl) (by rfl) (by rfl) (by repeat (first | exact Upd.head | apply Upd.tail)) (by rfl) ?_ | refine RS.storeP ty59 (by rfl) (by rfl) (by rfl) (by rfl) (by rfl) (by repeat (first | exact Upd.head | apply Upd.tail)) (by rfl) ?_
        refine RS.q rfl (QO.assign) ?_
        refine RS.nil ?_
        refine thenC_n ?_
        refine CS.ret ?_
        refine thenC_r ?_
        refine retQ.mk (H' := []) (.inr rfl) (RVs.cellA ty59 (by rfl) (by repeat (first | exact List.Mem.head _ | refine List.Mem.tail _ ?_)) (by rfl) (RVs.tmp (by rfl) RVs.nil)) (List.nil_sublist _) ?_
        first | exact ⟨prs_err (prsE_1 (Decidable.not_not.1 (of_decide_eq_false hb0p))) (by decide), rfl⟩ | exact ⟨prs_err (prsE_9b hs (j := i) (by omega) (by first | exact chk_e1 (by assumption) (by assumption) | exact chk_e2 (by assumption) (by assumption) | (exfalso; omega))) (by decide), rfl⟩ | exact ⟨prs_err (prsE_9a hs (by omega)) (by decide), rfl⟩ | exact ⟨prs_err (prsE_c hs hl11 hall2) (by assumption), rfl⟩ | exact ⟨prs_ok ((prsE_c hs hl11 hall2).trans (of_bne_false (by assumption))), rfl⟩
      · have hb2p := of_bne_false hb2
        refine CS.skip ?_
        refine thenC_n ?_
        refine CS.seq ?_
        refine CS.region ?_
        refine RS.alloc rfl ty139 ?_
        intro g7
        refine RS.nil ?_
        refine thenC_n ?_
        refine CS.seq ?_
        refine CS.seq ?_
        refine CS.region ?_
        refine RS.q rfl (QO.move) ?_
        refine RS.qv rfl (QO.lenStr Tryd.underlying9 (by rfl)) (congrArg iv (show ((formL rate).length : Int) = 11 from rfl)) ?_
        refine RS.q rfl (QO.move) ?_
        refine RS.nil ?_
        refine thenC_n ?_
        refine CS.block ?_
        refine CS.loop (X := Nat) (5 :: 8 :: 9 :: 26 :: 27 :: 28 :: 29 :: 30 :: 31 :: 32 :: 33 :: 34 :: 35 :: 36 :: 37 :: 38 :: 39 :: 40 :: 41 :: 42 :: 43 :: 44 :: 45 :: 46 :: 47 :: 48 :: 49 :: 50 :: 51 :: 52 :: 53 :: 54 :: 55 :: 56 :: 57 :: 58 :: 59 :: 60 :: 61 :: 62 :: 63 :: 64 :: 65 :: 66 :: 67 :: 68 :: 69 :: 70 :: 71 :: 72 :: 73 :: 74 :: 75 :: 76 :: 77 :: 78 :: []) (fun i => [(26, iv (i : Int))]) (fun i => [⟨g7, 139, paL l i⟩, ⟨g4, 59, [iv 0, iv 0, iv 0, iv 0]⟩]) (fun i => i ≤ 11 ∧ ∀ j, j < i → chk rate l j = true) (fun i => 11 - i) 0 ⟨Nat.zero_le _, fun j h => absurd h (Nat.not_lt_zero _)⟩ ?_ ?_ ?_
        · exact (by repeat (first | exact kn_nil | refine kn_cons (by rfl) ?_))
        · exact (by repeat (first | exact List.Sublist.refl _ | exact List.nil_sublist _ | refine List.Sublist.cons_cons _ ?_ | refine List.Sublist.cons _ ?_ | exact Sbp.refl | exact Sbp.nil | refine Sbp.cons (by repeat (first | exact Rem.head | apply Rem.tail)) ?_ | exact Sbp.app | refine Sbp.skip ?_))
        · intro i gj10 hz
          obtain ⟨hi, hall⟩ := hz
          have hl11 : l.length = 11 := by omega
          refine CS.seq ?_
          refine CS.region ?_
          refine RS.q rfl (QO.lss (by rfl) (by rfl)) ?_
          refine RS.nil ?_
          refine thenC_n ?_
          refine CS.seq ?_
          refine CS.cond (by rfl) (fun hb3 => ?_) (fun hb3 => ?_)
          · have hb3p := of_decide_eq_true hb3
            refine CS.skip ?_
            refine thenC_n ?_
            refine CS.seq ?_
            refine CS.block ?_
            refine CS.seq ?_
            refine CS.region ?_
            refine RS.q rfl (QO.move) ?_
            refine RS.q rfl (QO.assign) ?_
            refine RS.nil ?_
            refine thenC_n ?_
            refine CS.cut (X := Unit) [9, 29, 30, 31, 32, 33, 34, 35, 36, 37, 38] (fun z => [(9, .bool (dg (l.getD i 0)))]) (fun z => [⟨g7, 139, paL l i⟩, ⟨g4, 59, [iv 0, iv 0, iv 0, iv 0]⟩]) (fun z => True) ?_ ?_
            · refine CS.region ?_
              refine RS.q rfl (QO.move) ?_
              refine RS.q rfl (QO.move) ?_
              refine RS.q rfl (QO.idxStr Tryd.underlying9 (by rfl) (by rfl) (by omega) (str_at (by omega))) ?_
              refine RS.q rfl (QO.geq (by rfl) (by rfl)) ?_
              refine RS.q rfl (QO.move) ?_
              refine RS.split (dj := 33) (by rfl) (fun hb4 => ?_) (fun hb4 => ?_)
              · have hb4p := of_decide_eq_true hb4
                refine RS.on (dj := 33) rfl (congrArg Value.bool hb4) ?_
                refine RS.q rfl (QO.move) ?_
                refine RS.on (dj := 33) rfl (congrArg Value.bool hb4) ?_
                refine RS.q rfl (QO.move) ?_
                refine RS.on (dj := 33) rfl (congrArg Value.bool hb4) ?_
                refine RS.q rfl (QO.idxStr Tryd.underlying9 (by rfl) (by rfl) (by omega) (str_at (by omega))) ?_
                refine RS.on (dj := 33) rfl (congrArg Value.bool hb4) ?_
                refine RS.q rfl (QO.leq (by rfl) (by rfl)) ?_
                refine RS.q rfl (QO.pickT (by rfl) hb4 (by rfl)) ?_
                refine RS.q rfl (QO.assign) ?_
                refine RS.nil ?_
                refine cutQ_n (by intro t ht; repeat (first | with_reducible exact rfl | exact frame_puts ht (frame_mix ht) _ rfl | (refine frame_put rfl ht ?_) | (refine frame_puts ht ?_ _ rfl) | exact frame_mix ht | (refine frame_mix2 rfl ht ?_) | exact rfl)) ?_
                exact ⟨(), trivial, kn_cons (congrArg Value.bool (dg_T (by assumption))) kn_nil, (by repeat (first | exact List.Sublist.refl _ | exact List.nil_sublist _ | refine List.Sublist.cons_cons _ ?_ | refine List.Sublist.cons _ ?_ | exact Sbp.refl | exact Sbp.nil | refine Sbp.cons (by repeat (first | exact Rem.head | apply Rem.tail)) ?_ | exact Sbp.app | refine Sbp.skip ?_))⟩
              · have hb4p := of_decide_eq_false hb4
                refine RS.off (dj := 33) rfl (.inl (congrArg Value.bool hb4)) (fun _ => rfl) rfl ?_
                refine RS.off (dj := 33) rfl (.inl (congrArg Value.bool hb4)) (fun _ => rfl) rfl ?_
                refine RS.off (dj := 33) rfl (.inl (congrArg Value.bool hb4)) (fun _ => rfl) rfl ?_
                refine RS.off (dj := 33) rfl (.inl (congrArg Value.bool hb4)) (fun _ => rfl) rfl ?_
                refine RS.q rfl (QO.pickF (by rfl) hb4 (by rfl)) ?_
                refine RS.q rfl (QO.assign) ?_
                refine RS.nil ?_
                refine cutQ_n (by intro t ht; repeat (first | with_reducible exact rfl | exact frame_puts ht (frame_mix ht) _ rfl | (refine frame_put rfl ht ?_) | (refine frame_puts ht ?_ _ rfl) | exact frame_mix ht | (refine frame_mix2 rfl ht ?_) | exact rfl)) ?_
                exact ⟨(), trivial, kn_cons (congrArg Value.bool (dg_F (by assumption))) kn_nil, (by repeat (first | exact List.Sublist.refl _ | exact List.nil_sublist _ | refine List.Sublist.cons_cons _ ?_ | refine List.Sublist.cons _ ?_ | exact Sbp.refl | exact Sbp.nil | refine Sbp.cons (by repeat (first | exact Rem.head | apply Rem.tail)) ?_ | exact Sbp.app | refine Sbp.skip ?_))⟩
            · intro z gj hz
              clear hz
              refine CS.cut (X := Unit) (5 :: 39 :: 40 :: 41 :: 42 :: 43 :: 44 :: 45 :: 46 :: 47 :: 48 :: 49 :: 50 :: 51 :: 52 :: 53 :: 54 :: 55 :: 56 :: 57 :: 58 :: 59 :: 60 :: 61 :: 62 :: []) (fun z => [(9, .bool (dg (l.getD i 0)))]) (fun z => [⟨g7, 139, paL l i⟩, ⟨g4, 59, [iv 0, iv 0, iv 0, iv 0]⟩]) (fun z => chk rate l i = true) ?_ ?_
              · refine CS.seq ?_
                refine CS.draw 23 rfl (by kernel_rfl) (by kernel_rfl) ?_
                refine RT.take (i := 0) rfl (by kernel_rfl) rfl (QO.move) ?_
                refine RT.take (i := 1) rfl (by kernel_rfl) rfl (QO.move) ?_
                refine RT.take (i := 2) rfl (by kernel_rfl) rfl (QO.idxStr Tryd.underlying9 (by rfl) (by rfl) (by omega) (form_at (by omega))) ?_
                refine RT.take (i := 3) rfl (by kernel_rfl) rfl (QO.neq (by rfl) (by rfl)) ?_
                refine RT.take (i := 4) rfl (by kernel_rfl) rfl (QO.move) ?_
                refine RT.split (dj := 43) (by rfl) (fun hb5 => ?_) (fun hb5 => ?_)
                · have hb5p := bne_iff_ne.1 hb5
                  refine RT.takeOn (i := 5) (dj := 43) rfl rfl (congrArg Value.bool hb5) (by kernel_rfl) rfl (QO.move) ?_
                  refine RT.takeOn (i := 6) (dj := 43) rfl rfl (congrArg Value.bool hb5) (by kernel_rfl) rfl (QO.move) ?_
                  refine RT.takeOn (i := 7) (dj := 43) rfl rfl (congrArg Value.bool hb5) (by kernel_rfl) rfl (QO.idxStr Tryd.underlying9 (by rfl) (by rfl) (by omega) (str_at (by omega))) ?_
                  refine RT.takeOn (i := 8) (dj := 43) rfl rfl (congrArg Value.bool hb5) (by kernel_rfl) rfl (QO.move) ?_
                  refine RT.takeOn (i := 9) (dj := 43) rfl rfl (congrArg Value.bool hb5) (by kernel_rfl) rfl (QO.move) ?_
                  refine RT.takeOn (i := 10) (dj := 43) rfl rfl (congrArg Value.bool hb5) (by kernel_rfl) rfl (QO.idxStr Tryd.underlying9 (by rfl) (by rfl) (by omega) (form_at (by omega))) ?_
                  refine RT.takeOn (i := 11) (dj := 43) rfl rfl (congrArg Value.bool hb5) (by kernel_rfl) rfl (QO.neq (by rfl) (by rfl)) ?_
                  refine RT.take (i := 12) rfl (by kernel_rfl) rfl (QO.pickT (by rfl) hb5 (by rfl)) ?_
                  refine RT.take (i := 13) rfl (by kernel_rfl) rfl (QO.move) ?_
                  refine RT.split (dj := 52) (by rfl) (fun hb6 => ?_) (fun hb6 => ?_)
                  · have hb6p := bne_iff_ne.1 hb6
                    refine RT.takeOff (i := 14) (dj := 52) rfl rfl (.inl (congrArg Value.bool hb6)) (fun _ => rfl) (by kernel_rfl) rfl ?_
                    refine RT.takeOff (i := 15) (dj := 52) rfl rfl (.inl (congrArg Value.bool hb6)) (fun _ => rfl) (by kernel_rfl) rfl ?_
                    refine RT.takeOff (i := 16) (dj := 52) rfl rfl (.inl (congrArg Value.bool hb6)) (fun _ => rfl) (by kernel_rfl) rfl ?_
                    refine RT.takeOff (i := 17) (dj := 52) rfl rfl (.inl (congrArg Value.bool hb6)) (fun _ => rfl) (by kernel_rfl) rfl ?_
                    refine RT.takeOff (i := 18) (dj := 52) rfl rfl (.inl (congrArg Value.bool hb6)) (fun _ => rfl) (by kernel_rfl) rfl ?_
                    refine RT.takeOff (i := 19) (dj := 57) (c := false) rfl rfl (.inr rfl) (fun h => by cases h) (by kernel_rfl) rfl ?_
                    refine RT.takeOff (i := 20) (dj := 57) (c := false) rfl rfl (.inr rfl) (fun h => by cases h) (by kernel_rfl) rfl ?_
                    refine RT.takeOff (i := 21) (dj := 52) rfl rfl (.inl (congrArg Value.bool hb6)) (fun _ => rfl) (by kernel_rfl) rfl ?_
                    refine RT.take (i := 22) rfl (by kernel_rfl) rfl (QO.pickT (by rfl) hb6 (by rfl)) ?_
                    refine RT.done (by kernel_rfl) ?_
                    refine thenC_n ?_
                    refine CS.condT (by rfl) rfl ?_
                    refine CS.seq ?_
                    refine CS.region ?_
                    refine RS.q rfl (QO.build ty59 pl59 (by rfl)) ?_
                    first | refine RS.storeB ty59 (by rfl) (by rfl) (by rfl) (by rfl) (by rfl) (by repeat (first | exact Upd.head | apply Upd.tail)) (by rfl) ?_ | refine RS.storeP ty59 (by rfl) (by rfl) (by rfl) (by rfl) (by rfl) (by repeat (first | exact Upd.head | apply Upd.tail)) (by rfl) ?_
                    refine RS.q rfl (QO.assign) ?_
                    refine RS.nil ?_
                    refine thenC_n ?_
                    refine CS.ret ?_
                    refine cutQ_r ?_
                    refine blockC_r ?_
                    refine thenC_r ?_
                    refine loopQ_r ?_
                    refine blockC_r ?_
                    refine thenC_r ?_
                    refine retQ.mk (H' := []) (.inr rfl) (RVs.cellA ty59 (by rfl) (by repeat (first | exact List.Mem.head _ | refine List.Mem.tail _ ?_)) (by rfl) (RVs.tmp (by rfl) RVs.nil)) (List.nil_sublist _) ?_
                    first | exact ⟨prs_err (prsE_1 (Decidable.not_not.1 (of_decide_eq_false hb0p))) (by decide), rfl⟩ | exact ⟨prs_err (prsE_9b hs (j := i) (by omega) (by first | exact chk_e1 (by assumption) (by assumption) | exact chk_e2 (by assumption) (by assumption) | (exfalso; omega))) (by decide), rfl⟩ | exact ⟨prs_err (prsE_9a hs (by omega)) (by decide), rfl⟩ | exact ⟨prs_err (prsE_c hs hl11 hall2) (by assumption), rfl⟩ | exact ⟨prs_ok ((prsE_c hs hl11 hall2).trans (of_bne_false (by assumption))), rfl⟩
                  · have hb6p := of_bne_false hb6
                    refine RT.takeOn (i := 14) (dj := 52) rfl rfl (congrArg Value.bool hb6) (by kernel_rfl) rfl (QO.move) ?_
                    refine RT.takeOn (i := 15) (dj := 52) rfl rfl (congrArg Value.bool hb6) (by kernel_rfl) rfl (QO.move) ?_
                    refine RT.takeOn (i := 16) (dj := 52) rfl rfl (congrArg Value.bool hb6) (by kernel_rfl) rfl (QO.idxStr Tryd.underlying9 (by rfl) (by rfl) (by omega) (form_at (by omega))) ?_
                    refine RT.takeOn (i := 17) (dj := 52) rfl rfl (congrArg Value.bool hb6) (by kernel_rfl) rfl (QO.eql (by rfl) (by rfl)) ?_
                    refine RT.takeOn (i := 18) (dj := 52) rfl rfl (congrArg Value.bool hb6) (by kernel_rfl) rfl (QO.move) ?_
                    refine RT.split (dj := 57) (by rfl) (fun hb7 => ?_) (fun hb7 => ?_)
                    · have hb7p := eq_of_beq hb7
                      refine RT.takeOn (i := 19) (dj := 57) rfl rfl (congrArg Value.bool hb7) (by kernel_rfl) rfl (QO.move) ?_
                      refine RT.takeOn (i := 20) (dj := 57) rfl rfl (congrArg Value.bool hb7) (by kernel_rfl) rfl (QO.not (by rfl)) ?_
                      refine RT.takeOn (i := 21) (dj := 52) rfl rfl (congrArg Value.bool hb6) (by kernel_rfl) rfl (QO.pickT (by rfl) hb7 (by rfl)) ?_
                      refine RT.take (i := 22) rfl (by kernel_rfl) rfl (QO.pickF (by rfl) hb6 (by rfl)) ?_
                      refine RT.done (by kernel_rfl) ?_
                      refine thenC_n ?_
                      refine CS.cond (by rfl) (fun hb8 => ?_) (fun hb8 => ?_)
                      · have hb8p := Eq.mp (Bool.not_eq_true' _) hb8
                        refine CS.seq ?_
                        refine CS.region ?_
                        refine RS.q rfl (QO.build ty59 pl59 (by rfl)) ?_
                        first | refine RS.storeB ty59 (by rfl) (by rfl) (by rfl) (by rfl) (by rfl) (by repeat (first | exact Upd.head | apply Upd.tail)) (by rfl) ?_ | refine RS.storeP ty59 (by rfl) (by rfl) (by rfl) (by rfl) (by rfl) (by repeat (first | exact Upd.head | apply Upd.tail)) (by rfl) ?_
                        refine RS.q rfl (QO.assign) ?_
                        refine RS.nil ?_
                        refine thenC_n ?_
                        refine CS.ret ?_
                        refine cutQ_r ?_
                        refine blockC_r ?_
                        refine thenC_r ?_
                        refine loopQ_r ?_
                        refine blockC_r ?_
                        refine thenC_r ?_
                        refine retQ.mk (H' := []) (.inr rfl) (RVs.cellA ty59 (by rfl) (by repeat (first | exact List.Mem.head _ | refine List.Mem.tail _ ?_)) (by rfl) (RVs.tmp (by rfl) RVs.nil)) (List.nil_sublist _) ?_
                        first | exact ⟨prs_err (prsE_1 (Decidable.not_not.1 (of_decide_eq_false hb0p))) (by decide), rfl⟩ | exact ⟨prs_err (prsE_9b hs (j := i) (by omega) (by first | exact chk_e1 (by assumption) (by assumption) | exact chk_e2 (by assumption) (by assumption) | (exfalso; omega))) (by decide), rfl⟩ | exact ⟨prs_err (prsE_9a hs (by omega)) (by decide), rfl⟩ | exact ⟨prs_err (prsE_c hs hl11 hall2) (by assumption), rfl⟩ | exact ⟨prs_ok ((prsE_c hs hl11 hall2).trans (of_bne_false (by assumption))), rfl⟩
                      · have hb8p := Eq.mp (Bool.not_eq_false' _) hb8
                        refine CS.skip ?_
                        refine cutQ_n (by intro t ht; repeat (first | with_reducible exact rfl | exact frame_puts ht (frame_mix ht) _ rfl | (refine frame_put rfl ht ?_) | (refine frame_puts ht ?_ _ rfl) | exact frame_mix ht | (refine frame_mix2 rfl ht ?_) | exact rfl)) ?_
                        exact ⟨(), (by first | exact chk_k1 (by assumption) (by assumption) | exact chk_k2 (by assumption) (by assumption) | exact chk_k2 (by assumption) (by simpa using (by assumption : (!dg (l.getD i 0)) = false)) | (exfalso; omega)), kn_cons (by rfl) kn_nil, (by repeat (first | exact List.Sublist.refl _ | exact List.nil_sublist _ | refine List.Sublist.cons_cons _ ?_ | refine List.Sublist.cons _ ?_ | exact Sbp.refl | exact Sbp.nil | refine Sbp.cons (by repeat (first | exact Rem.head | apply Rem.tail)) ?_ | exact Sbp.app | refine Sbp.skip ?_))⟩
                    · have hb7p := ne_of_beq_false hb7
                      refine RT.takeOff (i := 19) (dj := 57) rfl rfl (.inl (congrArg Value.bool hb7)) (fun _ => rfl) (by kernel_rfl) rfl ?_
                      refine RT.takeOff (i := 20) (dj := 57) rfl rfl (.inl (congrArg Value.bool hb7)) (fun _ => rfl) (by kernel_rfl) rfl ?_
                      refine RT.takeOn (i := 21) (dj := 52) rfl rfl (congrArg Value.bool hb6) (by kernel_rfl) rfl (QO.pickF (by rfl) hb7 (by rfl)) ?_
                      refine RT.take (i := 22) rfl (by kernel_rfl) rfl (QO.pickF (by rfl) hb6 (by rfl)) ?_
                      refine RT.done (by kernel_rfl) ?_
                      refine thenC_n ?_
                      refine CS.condF (by rfl) rfl ?_
                      refine CS.skip ?_
                      refine cutQ_n (by intro t ht; repeat (first | with_reducible exact rfl | exact frame_puts ht (frame_mix ht) _ rfl | (refine frame_put rfl ht ?_) | (refine frame_puts ht ?_ _ rfl) | exact frame_mix ht | (refine frame_mix2 rfl ht ?_) | exact rfl)) ?_
                      exact ⟨(), (by first | exact chk_k1 (by assumption) (by assumption) | exact chk_k2 (by assumption) (by assumption) | exact chk_k2 (by assumption) (by simpa using (by assumption : (!dg (l.getD i 0)) = false)) | (exfalso; omega)), kn_cons (by rfl) kn_nil, (by repeat (first | exact List.Sublist.refl _ | exact List.nil_sublist _ | refine List.Sublist.cons_cons _ ?_ | refine List.Sublist.cons _ ?_ | exact Sbp.refl | exact Sbp.nil | refine Sbp.cons (by repeat (first | exact Rem.head | apply Rem.tail)) ?_ | exact Sbp.app | refine Sbp.skip ?_))⟩
                · have hb5p := of_bne_false hb5
                  refine RT.takeOff (i := 5) (dj := 43) rfl rfl (.inl (congrArg Value.bool hb5)) (fun _ => rfl) (by kernel_rfl) rfl ?_
                  refine RT.takeOff (i := 6) (dj := 43) rfl rfl (.inl (congrArg Value.bool hb5)) (fun _ => rfl) (by kernel_rfl) rfl ?_
                  refine RT.takeOff (i := 7) (dj := 43) rfl rfl (.inl (congrArg Value.bool hb5)) (fun _ => rfl) (by kernel_rfl) rfl ?_
                  refine RT.takeOff (i := 8) (dj := 43) rfl rfl (.inl (congrArg Value.bool hb5)) (fun _ => rfl) (by kernel_rfl) rfl ?_
                  refine RT.takeOff (i := 9) (dj := 43) rfl rfl (.inl (congrArg Value.bool hb5)) (fun _ => rfl) (by kernel_rfl) rfl ?_
                  refine RT.takeOff (i := 10) (dj := 43) rfl rfl (.inl (congrArg Value.bool hb5)) (fun _ => rfl) (by kernel_rfl) rfl ?_
                  refine RT.takeOff (i := 11) (dj := 43) rfl rfl (.inl (congrArg Value.bool hb5)) (fun _ => rfl) (by kernel_rfl) rfl ?_
                  refine RT.take (i := 12) rfl (by kernel_rfl) rfl (QO.pickF (by rfl) hb5 (by rfl)) ?_
                  refine RT.take (i := 13) rfl (by kernel_rfl) rfl (QO.move) ?_
                  refine RT.takeOn (i := 14) (dj := 52) rfl rfl (congrArg Value.bool rfl) (by kernel_rfl) rfl (QO.move) ?_
                  refine RT.takeOn (i := 15) (dj := 52) rfl rfl (congrArg Value.bool rfl) (by kernel_rfl) rfl (QO.move) ?_
                  refine RT.takeOn (i := 16) (dj := 52) rfl rfl (congrArg Value.bool rfl) (by kernel_rfl) rfl (QO.idxStr Tryd.underlying9 (by rfl) (by rfl) (by omega) (form_at (by omega))) ?_
                  refine RT.takeOn (i := 17) (dj := 52) rfl rfl (congrArg Value.bool rfl) (by kernel_rfl) rfl (QO.eql (by rfl) (by rfl)) ?_
                  refine RT.takeOn (i := 18) (dj := 52) rfl rfl (congrArg Value.bool rfl) (by kernel_rfl) rfl (QO.move) ?_
                  refine RT.split (dj := 57) (by rfl) (fun hb9 => ?_) (fun hb9 => ?_)
                  · have hb9p := eq_of_beq hb9
                    refine RT.takeOn (i := 19) (dj := 57) rfl rfl (congrArg Value.bool hb9) (by kernel_rfl) rfl (QO.move) ?_
                    refine RT.takeOn (i := 20) (dj := 57) rfl rfl (congrArg Value.bool hb9) (by kernel_rfl) rfl (QO.not (by rfl)) ?_
                    refine RT.takeOn (i := 21) (dj := 52) rfl rfl (congrArg Value.bool rfl) (by kernel_rfl) rfl (QO.pickT (by rfl) hb9 (by rfl)) ?_
                    refine RT.take (i := 22) rfl (by kernel_rfl) rfl (QO.pickF (by rfl) rfl (by rfl)) ?_
                    refine RT.done (by kernel_rfl) ?_
                    refine thenC_n ?_
                    refine CS.cond (by rfl) (fun hb10 => ?_) (fun hb10 => ?_)
                    · have hb10p := Eq.mp (Bool.not_eq_true' _) hb10
                      refine CS.seq ?_
                      refine CS.region ?_
                      refine RS.q rfl (QO.build ty59 pl59 (by rfl)) ?_
                      first | refine RS.storeB ty59 (by rfl) (by rfl) (by rfl) (by rfl) (by rfl) (by repeat (first | exact Upd.head | apply Upd.tail)) (by rfl) ?_ | refine RS.storeP ty59 (by rfl) (by rfl) (by rfl) (by rfl) (by rfl) (by repeat (first | exact Upd.head | apply Upd.tail)) (by rfl) ?_
                      refine RS.q rfl (QO.assign) ?_
                      refine RS.nil ?_
                      refine thenC_n ?_
                      refine CS.ret ?_
                      refine cutQ_r ?_
                      refine blockC_r ?_
                      refine thenC_r ?_
                      refine loopQ_r ?_
                      refine blockC_r ?_
                      refine thenC_r ?_
                      refine retQ.mk (H' := []) (.inr rfl) (RVs.cellA ty59 (by rfl) (by repeat (first | exact List.Mem.head _ | refine List.Mem.tail _ ?_)) (by rfl) (RVs.tmp (by rfl) RVs.nil)) (List.nil_sublist _) ?_
                      first | exact ⟨prs_err (prsE_1 (Decidable.not_not.1 (of_decide_eq_false hb0p))) (by decide), rfl⟩ | exact ⟨prs_err (prsE_9b hs (j := i) (by omega) (by first | exact chk_e1 (by assumption) (by assumption) | exact chk_e2 (by assumption) (by assumption) | (exfalso; omega))) (by decide), rfl⟩ | exact ⟨prs_err (prsE_9a hs (by omega)) (by decide), rfl⟩ | exact ⟨prs_err (prsE_c hs hl11 hall2) (by assumption), rfl⟩ | exact ⟨prs_ok ((prsE_c hs hl11 hall2).trans (of_bne_false (by assumption))), rfl⟩
                    · have hb10p := Eq.mp (Bool.not_eq_false' _) hb10
                      refine CS.skip ?_
                      refine cutQ_n (by intro t ht; repeat (first | with_reducible exact rfl | exact frame_puts ht (frame_mix ht) _ rfl | (refine frame_put rfl ht ?_) | (refine frame_puts ht ?_ _ rfl) | exact frame_mix ht | (refine frame_mix2 rfl ht ?_) | exact rfl)) ?_
                      exact ⟨(), (by first | exact chk_k1 (by assumption) (by assumption) | exact chk_k2 (by assumption) (by assumption) | exact chk_k2 (by assumption) (by simpa using (by assumption : (!dg (l.getD i 0)) = false)) | (exfalso; omega)), kn_cons (by rfl) kn_nil, (by repeat (first | exact List.Sublist.refl _ | exact List.nil_sublist _ | refine List.Sublist.cons_cons _ ?_ | refine List.Sublist.cons _ ?_ | exact Sbp.refl | exact Sbp.nil | refine Sbp.cons (by repeat (first | exact Rem.head | apply Rem.tail)) ?_ | exact Sbp.app | refine Sbp.skip ?_))⟩
                  · have hb9p := ne_of_beq_false hb9
                    refine RT.takeOff (i := 19) (dj := 57) rfl rfl (.inl (congrArg Value.bool hb9)) (fun _ => rfl) (by kernel_rfl) rfl ?_
                    refine RT.takeOff (i := 20) (dj := 57) rfl rfl (.inl (congrArg Value.bool hb9)) (fun _ => rfl) (by kernel_rfl) rfl ?_
                    refine RT.takeOn (i := 21) (dj := 52) rfl rfl (congrArg Value.bool rfl) (by kernel_rfl) rfl (QO.pickF (by rfl) hb9 (by rfl)) ?_
                    refine RT.take (i := 22) rfl (by kernel_rfl) rfl (QO.pickF (by rfl) rfl (by rfl)) ?_
                    refine RT.done (by kernel_rfl) ?_
                    refine thenC_n ?_
                    refine CS.condF (by rfl) rfl ?_
                    refine CS.skip ?_
                    refine cutQ_n (by intro t ht; repeat (first | with_reducible exact rfl | exact frame_puts ht (frame_mix ht) _ rfl | (refine frame_put rfl ht ?_) | (refine frame_puts ht ?_ _ rfl) | exact frame_mix ht | (refine frame_mix2 rfl ht ?_) | exact rfl)) ?_
                    exact ⟨(), (by first | exact chk_k1 (by assumption) (by assumption) | exact chk_k2 (by assumption) (by assumption) | exact chk_k2 (by assumption) (by simpa using (by assumption : (!dg (l.getD i 0)) = false)) | (exfalso; omega)), kn_cons (by rfl) kn_nil, (by repeat (first | exact List.Sublist.refl _ | exact List.nil_sublist _ | refine List.Sublist.cons_cons _ ?_ | refine List.Sublist.cons _ ?_ | exact Sbp.refl | exact Sbp.nil | refine Sbp.cons (by repeat (first | exact Rem.head | apply Rem.tail)) ?_ | exact Sbp.app | refine Sbp.skip ?_))⟩
              · intro z gj hz
                refine CS.seq ?_
                refine CS.region ?_
                refine RS.q rfl (QO.move) ?_
                refine RS.nil ?_
                refine thenC_n ?_
                refine CS.cond (by rfl) (fun hb11 => ?_) (fun hb11 => ?_)
                · refine CS.draw 14 rfl (by kernel_rfl) (by kernel_rfl) ?_
                  have hdt : dg (l.getD i 0) = true := by assumption
                  have hm3 := dg_chk hz hdt
                  have hpb := pa_bd l i (i / 3)
                  have hub := (l.getD i 0).toNat_lt
                  refine RT.take (i := 0) rfl (by kernel_rfl) rfl (QO.move) ?_
                  refine RT.takev (i := 1) rfl (by kernel_rfl) rfl (QO.quo (by rfl) (by rfl) (by omega) (by omega) (by omega)) (congrArg iv (tdivN i 3)) ?_
                  refine RT.take (i := 2) rfl (by kernel_rfl) rfl (QO.move) ?_
                  refine RT.takev (i := 3) rfl (by kernel_rfl) rfl (QO.quo (by rfl) (by rfl) (by omega) (by omega) (by omega)) (congrArg iv (tdivN i 3)) ?_
                  first | (refine RT.take (i := 4) rfl (by kernel_rfl) rfl (QO.idxArr0 Tryd.underlying139 ty3 (by rfl) (by rfl) (by rfl) (by omega)) ?_) | (refine RT.take (i := 4) rfl (by kernel_rfl) rfl (QO.idxArrn Tryd.underlying139 ty3 (by rfl) (by rfl) (by rfl) (by omega)) ?_) | (refine RT.take (i := 4) rfl (by kernel_rfl) rfl (QO.idxArr Tryd.underlying139 ty3 (by rfl) (by rfl) (by omega) (by omega)) ?_)
                  refine RT.take (i := 5) rfl (by kernel_rfl) rfl (QO.load ty3 (by rfl) (by repeat (first | exact List.Mem.head _ | refine List.Mem.tail _ ?_)) (paL_at (by omega))) ?_
                  first | (refine RT.takev (i := 6) rfl (by kernel_rfl) rfl (QO.mul (by rfl) (by rfl) (by omega) (by omega)) (congrArg iv (show 10 * ((pa l i (i / 3) : Nat) : Int) = ((10 * pa l i (i / 3) : Nat) : Int) from (Int.natCast_mul ..).symm)) ?_) | (refine RT.takev (i := 6) rfl (by kernel_rfl) rfl (QO.ibin (by rfl) (by rfl) trivial) (congrArg iv (show 10 * ((pa l i (i / 3) : Nat) : Int) = ((10 * pa l i (i / 3) : Nat) : Int) from (Int.natCast_mul ..).symm)) ?_)
                  refine RT.take (i := 7) rfl (by kernel_rfl) rfl (QO.move) ?_
                  refine RT.take (i := 8) rfl (by kernel_rfl) rfl (QO.move) ?_
                  refine RT.take (i := 9) rfl (by kernel_rfl) rfl (QO.idxStr Tryd.underlying9 (by rfl) (by rfl) (by omega) (str_at (by omega))) ?_
                  refine RT.takev (i := 10) rfl (by kernel_rfl) rfl (QO.ibin (by rfl) (by rfl) trivial) (congrArg (Value.int .u8) (u8_sub hdt)) ?_
                  refine RT.takev (i := 11) rfl (by kernel_rfl) rfl (QO.conv_int Tryd.underlying5 Tryd.underlying3 (by rfl)) (congrArg iv (w64 (a := (((l.getD i 0).toNat - 48 : Nat) : Int)) (by omega) (by omega))) ?_
                  first | (refine RT.takev (i := 12) rfl (by kernel_rfl) rfl (QO.add (by rfl) (by rfl) (by omega) (by omega)) (congrArg iv (show ((10 * pa l i (i / 3) : Nat) : Int) + (((l.getD i 0).toNat - 48 : Nat) : Int) = ((10 * pa l i (i / 3) + ((l.getD i 0).toNat - 48) : Nat) : Int) from (Int.natCast_add ..).symm)) ?_) | (refine RT.takev (i := 12) rfl (by kernel_rfl) rfl (QO.ibin (by rfl) (by rfl) trivial) (congrArg iv (show ((10 * pa l i (i / 3) : Nat) : Int) + (((l.getD i 0).toNat - 48 : Nat) : Int) = ((10 * pa l i (i / 3) + ((l.getD i 0).toNat - 48) : Nat) : Int) from (Int.natCast_add ..).symm)) ?_)
                  first | (refine RT.take (i := 13) rfl (by kernel_rfl) rfl (QO.idxArr0 Tryd.underlying139 ty3 (by rfl) (by rfl) (by rfl) (by omega)) ?_) | (refine RT.take (i := 13) rfl (by kernel_rfl) rfl (QO.idxArrn Tryd.underlying139 ty3 (by rfl) (by rfl) (by rfl) (by omega)) ?_) | (refine RT.take (i := 13) rfl (by kernel_rfl) rfl (QO.idxArr Tryd.underlying139 ty3 (by rfl) (by rfl) (by omega) (by omega)) ?_)
                  refine RT.tail (i := 14) (by kernel_rfl) rfl rfl ?_
                  refine RS.store1e ty3 rfl (by rfl) (by rfl) (by rfl) (pa_set (by omega) hm3) (by repeat (first | exact Upd.head | apply Upd.tail)) (by show i / 3 < 4; omega) ?_
                  refine RS.nil ?_
                  refine RT.done (by kernel_rfl) ?_
                  refine blockC_n ?_
                  refine thenC_n ?_
                  refine CS.region ?_
                  first | (refine RS.q rfl (QO.add (by rfl) (by rfl) (by omega) (by omega)) ?_) | (refine RS.q rfl (QO.ibin (by rfl) (by rfl) trivial) ?_)
                  refine RS.q rfl (QO.move) ?_
                  refine RS.nil ?_
                  refine loopQ_n (by intro t ht; repeat (first | with_reducible exact rfl | exact frame_puts ht (frame_mix ht) _ rfl | (refine frame_put rfl ht ?_) | (refine frame_puts ht ?_ _ rfl) | exact frame_mix ht | (refine frame_mix2 rfl ht ?_) | exact rfl)) ?_
                  exact ⟨i + 1, ⟨by omega, fun j hj => by
                      by_cases e : j = i
                      · subst e; exact hz
                      · exact hall j (by omega)⟩, by omega, (by repeat (first | exact kn_nil | refine kn_cons (by rfl) ?_)), (by repeat (first | exact List.Sublist.refl _ | exact List.nil_sublist _ | refine List.Sublist.cons_cons _ ?_ | refine List.Sublist.cons _ ?_ | exact Sbp.refl | exact Sbp.nil | refine Sbp.cons (by repeat (first | exact Rem.head | apply Rem.tail)) ?_ | exact Sbp.app | refine Sbp.skip ?_))⟩
                · refine CS.skip ?_
                  refine blockC_n ?_
                  refine thenC_n ?_
                  refine CS.region ?_
                  first | (refine RS.q rfl (QO.add (by rfl) (by rfl) (by omega) (by omega)) ?_) | (refine RS.q rfl (QO.ibin (by rfl) (by rfl) trivial) ?_)
                  refine RS.q rfl (QO.move) ?_
                  refine RS.nil ?_
                  refine loopQ_n (by intro t ht; repeat (first | with_reducible exact rfl | exact frame_puts ht (frame_mix ht) _ rfl | (refine frame_put rfl ht ?_) | (refine frame_puts ht ?_ _ rfl) | exact frame_mix ht | (refine frame_mix2 rfl ht ?_) | exact rfl)) ?_
                  exact ⟨i + 1, ⟨by omega, fun j hj => by
                      by_cases e : j = i
                      · subst e; exact hz
                      · exact hall j (by omega)⟩, by omega, (by repeat (first | exact kn_nil | refine kn_cons (by rfl) ?_)), (by rw [← pa_skip (nd_chk hz (by assumption))]; exact (by repeat (first | exact List.Sublist.refl _ | exact List.nil_sublist _ | refine List.Sublist.cons_cons _ ?_ | refine List.Sublist.cons _ ?_ | exact Sbp.refl | exact Sbp.nil | refine Sbp.cons (by repeat (first | exact Rem.head | apply Rem.tail)) ?_ | exact Sbp.app | refine Sbp.skip ?_)))⟩
          · have hb3p := of_decide_eq_false hb3
            refine CS.exit ?_
            refine thenC_x ?_
            refine loopQ_x ?_
            refine blockC_x ?_
            refine thenC_n ?_
            refine CS.seq ?_
            refine CS.region ?_
            have hi11 : i = 11 := by omega
            have hl11 : l.length = 11 := by omega
            have hall2 : ∀ j, j < 11 → chk rate l j = true := fun j hj => hall j (by omega)
            first | (refine RS.q rfl (QO.idxArr0 Tryd.underlying139 ty3 (by rfl) (by rfl) (by rfl) (by omega)) ?_) | (refine RS.q rfl (QO.idxArrn Tryd.underlying139 ty3 (by rfl) (by rfl) (by rfl) (by omega)) ?_) | (refine RS.q rfl (QO.idxArr Tryd.underlying139 ty3 (by rfl) (by rfl) (by omega) (by omega)) ?_)
            first | (refine RS.qv rfl (QO.load ty3 (by rfl) (by repeat (first | exact List.Mem.head _ | refine List.Mem.tail _ ?_)) (by rfl)) (congrArg iv (show ((pa l i 0 : Nat) : Int) = ((fld l 0 : Nat) : Int) from by rw [hi11]; rfl)) ?_) | (refine RS.qv rfl (QO.loadO ty3 (by rfl) (by assumption)) (congrArg iv (show ((pa l i 0 : Nat) : Int) = ((fld l 0 : Nat) : Int) from by rw [hi11]; rfl)) ?_) | (refine RS.qv rfl (QO.load ty3 (by rfl) (by repeat (first | exact List.Mem.head _ | refine List.Mem.tail _ ?_)) (by assumption)) (congrArg iv (show ((pa l i 0 : Nat) : Int) = ((fld l 0 : Nat) : Int) from by rw [hi11]; rfl)) ?_)
            first | (refine RS.q rfl (QO.idxArr0 Tryd.underlying139 ty3 (by rfl) (by rfl) (by rfl) (by omega)) ?_) | (refine RS.q rfl (QO.idxArrn Tryd.underlying139 ty3 (by rfl) (by rfl) (by rfl) (by omega)) ?_) | (refine RS.q rfl (QO.idxArr Tryd.underlying139 ty3 (by rfl) (by rfl) (by omega) (by omega)) ?_)
            first | (refine RS.qv rfl (QO.load ty3 (by rfl) (by repeat (first | exact List.Mem.head _ | refine List.Mem.tail _ ?_)) (by rfl)) (congrArg iv (show ((pa l i 1 : Nat) : Int) = ((fld l 1 : Nat) : Int) from by rw [hi11]; rfl)) ?_) | (refine RS.qv rfl (QO.loadO ty3 (by rfl) (by assumption)) (congrArg iv (show ((pa l i 1 : Nat) : Int) = ((fld l 1 : Nat) : Int) from by rw [hi11]; rfl)) ?_) | (refine RS.qv rfl (QO.load ty3 (by rfl) (by repeat (first | exact List.Mem.head _ | refine List.Mem.tail _ ?_)) (by assumption)) (congrArg iv (show ((pa l i 1 : Nat) : Int) = ((fld l 1 : Nat) : Int) from by rw [hi11]; rfl)) ?_)
            first | (refine RS.q rfl (QO.idxArr0 Tryd.underlying139 ty3 (by rfl) (by rfl) (by rfl) (by omega)) ?_) | (refine RS.q rfl (QO.idxArrn Tryd.underlying139 ty3 (by rfl) (by rfl) (by rfl) (by omega)) ?_) | (refine RS.q rfl (QO.idxArr Tryd.underlying139 ty3 (by rfl) (by rfl) (by omega) (by omega)) ?_)
            first | (refine RS.qv rfl (QO.load ty3 (by rfl) (by repeat (first | exact List.Mem.head _ | refine List.Mem.tail _ ?_)) (by rfl)) (congrArg iv (show ((pa l i 2 : Nat) : Int) = ((fld l 2 : Nat) : Int) from by rw [hi11]; rfl)) ?_) | (refine RS.qv rfl (QO.loadO ty3 (by rfl) (by assumption)) (congrArg iv (show ((pa l i 2 : Nat) : Int) = ((fld l 2 : Nat) : Int) from by rw [hi11]; rfl)) ?_) | (refine RS.qv rfl (QO.load ty3 (by rfl) (by repeat (first | exact List.Mem.head _ | refine List.Mem.tail _ ?_)) (by assumption)) (congrArg iv (show ((pa l i 2 : Nat) : Int) = ((fld l 2 : Nat) : Int) from by rw [hi11]; rfl)) ?_)
            first | (refine RS.q rfl (QO.idxArr0 Tryd.underlying139 ty3 (by rfl) (by rfl) (by rfl) (by omega)) ?_) | (refine RS.q rfl (QO.idxArrn Tryd.underlying139 ty3 (by rfl) (by rfl) (by rfl) (by omega)) ?_) | (refine RS.q rfl (QO.idxArr Tryd.underlying139 ty3 (by rfl) (by rfl) (by omega) (by omega)) ?_)
            first | (refine RS.qv rfl (QO.load ty3 (by rfl) (by repeat (first | exact List.Mem.head _ | refine List.Mem.tail _ ?_)) (by rfl)) (congrArg iv (show ((pa l i 3 : Nat) : Int) = ((fld l 3 : Nat) : Int) from by rw [hi11]; rfl)) ?_) | (refine RS.qv rfl (QO.loadO ty3 (by rfl) (by assumption)) (congrArg iv (show ((pa l i 3 : Nat) : Int) = ((fld l 3 : Nat) : Int) from by rw [hi11]; rfl)) ?_) | (refine RS.qv rfl (QO.load ty3 (by rfl) (by repeat (first | exact List.Mem.head _ | refine List.Mem.tail _ ?_)) (by assumption)) (congrArg iv (show ((pa l i 3 : Nat) : Int) = ((fld l 3 : Nat) : Int) from by rw [hi11]; rfl)) ?_)
            refine RS.qv rfl (QO.build ty59 pl59 (by rfl)) ((show _ = Value.agg #[iv (fld l 0 : Nat), iv (fld l 1 : Nat), iv (fld l 2 : Nat), iv (fld l 3 : Nat)] from rfl)) ?_
            refine RS.alloc rfl ty59 ?_
            intro g10
            first | refine RS.storeB ty59 (by rfl) (by rfl) (by rfl) (by rfl) (by rfl) (by repeat (first | exact Upd.head | apply Upd.tail)) (by rfl) ?_ | refine RS.storeP ty59 (by rfl) (by rfl) (by rfl) (by rfl) (by rfl) (by repeat (first | exact Upd.head | apply Upd.tail)) (by rfl) ?_
            refine RS.nil ?_
            refine thenC_n ?_
            refine CS.seq ?_
            refine CS.seq ?_
            refine CS.region ?_
            refine RS.q rfl (QO.move) ?_
            first | (refine RS.q rfl (QO.loadB ty59 (by rfl) (by repeat (first | exact List.Mem.head _ | refine List.Mem.tail _ ?_)) (by rfl)) ?_) | (refine RS.q rfl (QO.loadA ty59 (by rfl) (by repeat (first | exact List.Mem.head _ | refine List.Mem.tail _ ?_)) (by rfl) (by rfl)) ?_) | (refine RS.q rfl (QO.loadOA ty59 (by rfl) (by assumption) (by rfl)) ?_)
            refine RS.call rfl (by rfl) ok90 (by rfl) (fun w ho => checkCode _ _ _ _ _ _) ?_
            rintro _ _ ⟨rfl, rfl⟩
            refine RS.q rfl (QO.assign) ?_
            refine RS.nil ?_
            refine thenC_n ?_
            refine CS.seq ?_
            refine CS.region ?_
            refine RS.q rfl (QO.move) ?_
            refine RS.q rfl (QO.neq (by rfl) (by rfl)) ?_
            refine RS.nil ?_
            refine thenC_n ?_
            refine CS.cond (by rfl) (fun hb12 => ?_) (fun hb12 => ?_)
            · have hb12p := bne_iff_ne.1 hb12
              refine CS.seq ?_
              refine CS.region ?_
              refine RS.q rfl (QO.build ty59 pl59 (by rfl)) ?_
              refine RS.q rfl (QO.move) ?_
              first | refine RS.storeB ty59 (by rfl) (by rfl) (by rfl) (by rfl) (by rfl) (by repeat (first | exact Upd.head | apply Upd.tail)) (by rfl) ?_ | refine RS.storeP ty59 (by rfl) (by rfl) (by rfl) (by rfl) (by rfl) (by repeat (first | exact Upd.head | apply Upd.tail)) (by rfl) ?_
              refine RS.q rfl (QO.assign) ?_
              refine RS.nil ?_
              refine thenC_n ?_
              refine CS.ret ?_
              refine thenC_r ?_
              refine retQ.mk (H' := []) (.inr rfl) (RVs.cellA ty59 (by rfl) (by repeat (first | exact List.Mem.head _ | refine List.Mem.tail _ ?_)) (by rfl) (RVs.tmp (by rfl) RVs.nil)) (List.nil_sublist _) ?_
              first | exact ⟨prs_err (prsE_1 (Decidable.not_not.1 (of_decide_eq_false hb0p))) (by decide), rfl⟩ | exact ⟨prs_err (prsE_9b hs (j := i) (by omega) (by first | exact chk_e1 (by assumption) (by assumption) | exact chk_e2 (by assumption) (by assumption) | (exfalso; omega))) (by decide), rfl⟩ | exact ⟨prs_err (prsE_9a hs (by omega)) (by decide), rfl⟩ | exact ⟨prs_err (prsE_c hs hl11 hall2) (by assumption), rfl⟩ | exact ⟨prs_ok ((prsE_c hs hl11 hall2).trans (of_bne_false (by assumption))), rfl⟩
            · have hb12p := of_bne_false hb12
              refine CS.skip ?_
              refine thenC_n ?_
              refine CS.seq ?_
              refine CS.region ?_
              first | (refine RS.q rfl (QO.loadB ty59 (by rfl) (by repeat (first | exact List.Mem.head _ | refine List.Mem.tail _ ?_)) (by rfl)) ?_) | (refine RS.q rfl (QO.loadA ty59 (by rfl) (by repeat (first | exact List.Mem.head _ | refine List.Mem.tail _ ?_)) (by rfl) (by rfl)) ?_) | (refine RS.q rfl (QO.loadOA ty59 (by rfl) (by assumption) (by rfl)) ?_)
              first | refine RS.storeB ty59 (by rfl) (by rfl) (by rfl) (by rfl) (by rfl) (by repeat (first | exact Upd.head | apply Upd.tail)) (by rfl) ?_ | refine RS.storeP ty59 (by rfl) (by rfl) (by rfl) (by rfl) (by rfl) (by repeat (first | exact Upd.head | apply Upd.tail)) (by rfl) ?_
              refine RS.q rfl (QO.assign) ?_
              refine RS.nil ?_
              refine thenC_n ?_
              refine CS.ret ?_
              refine retQ.mk (H' := []) (.inr rfl) (RVs.cellA ty59 (by rfl) (by repeat (first | exact List.Mem.head _ | refine List.Mem.tail _ ?_)) (by rfl) (RVs.tmp (by rfl) RVs.nil)) (List.nil_sublist _) ?_
              first | exact ⟨prs_err (prsE_1 (Decidable.not_not.1 (of_decide_eq_false hb0p))) (by decide), rfl⟩ | exact ⟨prs_err (prsE_9b hs (j := i) (by omega) (by first | exact chk_e1 (by assumption) (by assumption) | exact chk_e2 (by assumption) (by assumption) | (exfalso; omega))) (by decide), rfl⟩ | exact ⟨prs_err (prsE_9a hs (by omega)) (by decide), rfl⟩ | exact ⟨prs_err (prsE_c hs hl11 hall2) (by assumption), rfl⟩ | exact ⟨prs_ok ((prsE_c hs hl11 hall2).trans (of_bne_false (by assumption))), rfl⟩

end Go.Proofs.YtapcgokcfmklbaaDoor
