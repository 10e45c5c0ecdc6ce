/-
  Contracts: time codes counted. Conditions: as each theorem says.
-/
import Derived.Test.YtapcgokcfmklbaaDoorD1
import Derived.Test.YtapcgokcfmklbaaDoorTile
namespace Go.Proofs.YtapcgokcfmklbaaDoor
open Go Go.Proofs Go.RowKit

theorem ty59 : tyChk Tryd.prog 59 = some ([.int .i64 0, .int .i64 0, .int .i64 0, .int .i64 0], true, 32) := by kernel_rfl
theorem pl59 : places Tryd.prog 59 = some #[(0, 1), (1, 1), (2, 1), (3, 1)] := by kernel_rfl
theorem ok90 : callOK Tryd.prog 90 = true := by kernel_rfl
theorem ok95 : callOK Tryd.prog 95 = true := by kernel_rfl

theorem ful_bd {r n : Int} (h : sec r ≠ 0) (h0 : 0 ≤ n) (h1 : n < dayN r) : 0 ≤ fulN r n ∧ fulN r n < 86400 * sec r := by
  by_cases h29 : r = 29
  · subst h29
    have hd : dayN 29 = 2589408 := rfl
    have hs : sec 29 = 30 := rfl
    rw [hd] at h1
    unfold fulN
    rw [if_pos rfl, hs]
    split <;> omega
  · have hd : dayN r = 86400 * sec r := if_neg h29
    have hf : fulN r n = n := if_neg h29
    rw [hf, ← hd]; exact ⟨h0, h1⟩
theorem day_bd {r : Int} (h : sec r ≠ 0) : 2073600 ≤ dayN r ∧ dayN r ≤ 5184000 := by
  have := sec_bd r
  unfold dayN; split <;> omega
theorem day_29 : 2589408 = dayN 29 := rfl
theorem day_no {r : Int} (h : sec r ≠ 0) (h9 : ¬ r = 29) : 86400 * r = dayN r := by
  have := sec_cases h
  unfold dayN sec; rw [if_neg h9, if_pos (by omega)]
theorem day_r {r : Int} (h9 : r = 29) : 86400 * sec r - 2592 = dayN r := by subst h9; rfl
theorem day_s {r : Int} (h9 : ¬ r = 29) : 86400 * sec r = dayN r := (if_neg h9).symm
/-- the remainder that is not below 0 -/
theorem mod_neg {n d : Int} (hd : 0 < d) (h : n.tmod d < 0) : n.tmod d + d = n % d := by
  have h1 := Int.emod_nonneg n (show d ≠ 0 by omega)
  rw [Int.tmod_eq_emod] at h ⊢
  split at h
  · omega
  · rename_i hc
    rw [if_neg hc]
    have : (d.natAbs : Int) = d := by omega
    omega
theorem mod_pos {n d : Int} (hd : 0 < d) (h : ¬ n.tmod d < 0) : n.tmod d = n % d := by
  have h1 := Int.emod_nonneg n (show d ≠ 0 by omega)
  have h2 := Int.emod_lt_of_pos n hd
  rw [Int.tmod_eq_emod] at h ⊢
  split at h
  · rename_i hc; rw [if_pos hc]; omega
  · rename_i hc
    rw [if_neg hc]
    have : (d.natAbs : Int) = d := by omega
    omega
theorem tmodB {n d : Int} (hd : 0 < d) : -d ≤ n.tmod d ∧ n.tmod d < d := by
  have h1 := Int.emod_nonneg n (show d ≠ 0 by omega)
  have h2 := Int.emod_lt_of_pos n hd
  rcases Int.lt_or_le (n.tmod d) 0 with h | h
  · have := mod_neg hd h; omega
  · have := mod_pos hd (show ¬ n.tmod d < 0 by omega); omega
def cdV (r n : Int) : Value := .agg #[iv (cdH r n), iv (cdM r n), iv (cdS r n), iv (cdF r n)]
theorem code_end {r n z : Int} (h : z = fulN r n) : Value.agg #[iv (z / sec r / 3600), iv (z / sec r / 60 % 60), iv (z / sec r % 60), iv (z % sec r)] = cdV r n := by subst h; rfl
theorem ful_drop {n l : Int} (h : (1800 ≤ n % 17982 ∧ l = (n % 17982 - 1800) / 1798 + 1) ∨ (n % 17982 < 1800 ∧ l = 0)) : 18000 * (n / 17982) + n % 17982 + 2 * l = fulN 29 n := by
  unfold fulN
  rw [if_pos rfl]
  rcases h with ⟨h, e⟩ | ⟨h, e⟩
  · rw [if_pos h, e]
  · rw [if_neg (by omega), e]
theorem ful_same {r n : Int} (h : ¬ r = 29) : n = fulN r n := (if_neg h).symm
theorem quo_eq {a b : Int} (h : 0 ≤ a) : a.tdiv b = a / b := Int.tdiv_eq_ediv_of_nonneg h
theorem rem_eq {a b : Int} (h : 0 ≤ a) : a.tmod b = a % b := Int.tmod_eq_emod_of_nonneg h

set_option maxHeartbeats 4000000 in
set_option maxRecDepth 100000 in
theorem codeOf (rate n : Int) (W : World) (hs : sec rate ≠ 0) : Fn_ Tryd.prog 36 #[iv rate, iv n] W (fun v H => v = .tuple #[cdV rate (n % dayN rate), iv 0] ∧ H = []) := by
  refine Fn_.intro Tryd.func36 rfl rfl (by rfl) ?_
  refine CS.seq ?_
  refine CS.region ?_
  refine RS.alloc rfl ty59 ?_
  intro g4
  refine RS.q rfl (QO.assign) ?_
  refine RS.nil ?_
  refine thenC_n ?_
  refine CS.seq ?_
  refine CS.seq ?_
  refine CS.region ?_
  refine RS.q rfl (QO.move) ?_
  refine RS.call rfl (by rfl) ok93 (by rfl) (fun w ho => isRate _ _) ?_
  rintro _ _ ⟨rfl, rfl⟩
  refine RS.qv rfl (QO.not (by rfl)) (congrArg Value.bool (show (!decide (sec rate ≠ 0)) = false from by rw [decide_eq_true hs]; rfl)) ?_
  refine RS.nil ?_
  refine thenC_n ?_
  refine CS.condF (by rfl) rfl ?_
  refine CS.skip ?_
  refine thenC_n ?_
  refine CS.seq ?_
  refine CS.region ?_
  have hrb := sec_cases hs
  refine RS.q rfl (QO.move) ?_
  first | (refine RS.q rfl (QO.mul (by rfl) (by rfl) (by omega) (by omega)) ?_) | (refine RS.q rfl (QO.ibin (by rfl) (by rfl) trivial) ?_)
  refine RS.q rfl (QO.assign) ?_
  refine RS.nil ?_
  refine thenC_n ?_
  refine CS.cut (X := Unit) [6, 18, 19] (fun z => [(6, iv (dayN rate))]) (fun z => [⟨g4, 59, [iv 0, iv 0, iv 0, iv 0]⟩]) (fun z => True) ?_ ?_
  · refine CS.seq ?_
    refine CS.region ?_
    refine RS.q rfl (QO.move) ?_
    refine RS.q rfl (QO.eql (by rfl) (by rfl)) ?_
    refine RS.nil ?_
    refine thenC_n ?_
    refine CS.cond (by rfl) (fun hb0 => ?_) (fun hb0 => ?_)
    · have hb0p := eq_of_beq hb0
      refine CS.region ?_
      refine RS.q rfl (QO.assign) ?_
      refine RS.nil ?_
      refine cutQ_n (by intro t ht; repeat (first | with_reducible exact rfl | exact frame_puts ht (frame_mix ht) _ rfl | (refine frame_put rfl ht ?_) | (refine frame_puts ht ?_ _ rfl) | exact frame_mix ht | (refine frame_mix2 rfl ht ?_) | exact rfl)) ?_
      exact ⟨(), trivial, kn_cons (congrArg iv (by rw [hb0p]; rfl)) kn_nil, (by repeat (first | exact List.Sublist.refl _ | exact List.nil_sublist _ | refine List.Sublist.cons_cons _ ?_ | refine List.Sublist.cons _ ?_ | exact Sbp.refl | exact Sbp.nil | refine Sbp.cons (by repeat (first | exact Rem.head | apply Rem.tail)) ?_ | exact Sbp.app | refine Sbp.skip ?_))⟩
    · have hb0p := ne_of_beq_false hb0
      refine CS.skip ?_
      refine cutQ_n (by intro t ht; repeat (first | with_reducible exact rfl | exact frame_puts ht (frame_mix ht) _ rfl | (refine frame_put rfl ht ?_) | (refine frame_puts ht ?_ _ rfl) | exact frame_mix ht | (refine frame_mix2 rfl ht ?_) | exact rfl)) ?_
      exact ⟨(), trivial, kn_cons (congrArg iv (day_no hs hb0p)) kn_nil, (by repeat (first | exact List.Sublist.refl _ | exact List.nil_sublist _ | refine List.Sublist.cons_cons _ ?_ | refine List.Sublist.cons _ ?_ | exact Sbp.refl | exact Sbp.nil | refine Sbp.cons (by repeat (first | exact Rem.head | apply Rem.tail)) ?_ | exact Sbp.app | refine Sbp.skip ?_))⟩
  · intro z gj hz
    have hdb := day_bd hs
    have htm := tmodB (n := n) (show 0 < dayN rate by omega)
    refine CS.cut (X := Int) [1, 20, 21, 22, 23, 24, 25, 26, 27] (fun z => [(1, iv z)]) (fun z => [⟨g4, 59, [iv 0, iv 0, iv 0, iv 0]⟩]) (fun z => z = (n % dayN rate)) ?_ ?_
    · refine CS.seq ?_
      refine CS.region ?_
      refine RS.q rfl (QO.move) ?_
      refine RS.q rfl (QO.move) ?_
      refine RS.q rfl (QO.rem (by rfl) (by rfl) (by omega)) ?_
      refine RS.q rfl (QO.assign) ?_
      refine RS.nil ?_
      refine thenC_n ?_
      refine CS.seq ?_
      refine CS.region ?_
      refine RS.q rfl (QO.move) ?_
      refine RS.q rfl (QO.lss (by rfl) (by rfl)) ?_
      refine RS.nil ?_
      refine thenC_n ?_
      refine CS.cond (by rfl) (fun hb1 => ?_) (fun hb1 => ?_)
      · have hb1p := of_decide_eq_true hb1
        refine CS.region ?_
        refine RS.q rfl (QO.move) ?_
        refine RS.q rfl (QO.move) ?_
        first | (refine RS.q rfl (QO.add (by rfl) (by rfl) (by omega) (by omega)) ?_) | (refine RS.q rfl (QO.ibin (by rfl) (by rfl) trivial) ?_)
        refine RS.q rfl (QO.assign) ?_
        refine RS.nil ?_
        refine cutQ_n (by intro t ht; repeat (first | with_reducible exact rfl | exact frame_puts ht (frame_mix ht) _ rfl | (refine frame_put rfl ht ?_) | (refine frame_puts ht ?_ _ rfl) | exact frame_mix ht | (refine frame_mix2 rfl ht ?_) | exact rfl)) ?_
        exact ⟨_, mod_neg (by omega) hb1p, kn_cons rfl kn_nil, (by repeat (first | exact List.Sublist.refl _ | exact List.nil_sublist _ | refine List.Sublist.cons_cons _ ?_ | refine List.Sublist.cons _ ?_ | exact Sbp.refl | exact Sbp.nil | refine Sbp.cons (by repeat (first | exact Rem.head | apply Rem.tail)) ?_ | exact Sbp.app | refine Sbp.skip ?_))⟩
      · have hb1p := of_decide_eq_false hb1
        refine CS.skip ?_
        refine cutQ_n (by intro t ht; repeat (first | with_reducible exact rfl | exact frame_puts ht (frame_mix ht) _ rfl | (refine frame_put rfl ht ?_) | (refine frame_puts ht ?_ _ rfl) | exact frame_mix ht | (refine frame_mix2 rfl ht ?_) | exact rfl)) ?_
        exact ⟨_, mod_pos (by omega) hb1p, kn_cons rfl kn_nil, (by repeat (first | exact List.Sublist.refl _ | exact List.nil_sublist _ | refine List.Sublist.cons_cons _ ?_ | refine List.Sublist.cons _ ?_ | exact Sbp.refl | exact Sbp.nil | refine Sbp.cons (by repeat (first | exact Rem.head | apply Rem.tail)) ?_ | exact Sbp.app | refine Sbp.skip ?_))⟩
    · intro z gj hz
      have hq0 := Int.emod_nonneg n (show dayN rate ≠ 0 by omega)
      have hq1 := Int.emod_lt_of_pos n (show 0 < dayN rate by omega)
      rw [← hz] at hq0 hq1
      have hzq := hz
      clear hz htm
      have hqd : 0 ≤ z / 17982 ∧ z / 17982 ≤ 300 ∧ 0 ≤ z % 17982 ∧ z % 17982 < 17982 := by omega
      refine CS.cut (X := Int) (1 :: 7 :: 8 :: 9 :: 28 :: 29 :: 30 :: 31 :: 32 :: 33 :: 34 :: 35 :: 36 :: 37 :: 38 :: 39 :: 40 :: 41 :: 42 :: 43 :: 44 :: 45 :: 46 :: []) (fun y => [(1, iv y)]) (fun y => [⟨g4, 59, [iv 0, iv 0, iv 0, iv 0]⟩]) (fun y => y = fulN rate z) ?_ ?_
      · refine CS.seq ?_
        refine CS.region ?_
        refine RS.q rfl (QO.move) ?_
        refine RS.q rfl (QO.eql (by rfl) (by rfl)) ?_
        refine RS.nil ?_
        refine thenC_n ?_
        refine CS.cond (by rfl) (fun hb2 => ?_) (fun hb2 => ?_)
        · have hb2p := eq_of_beq hb2
          refine CS.seq ?_
          refine CS.region ?_
          refine RS.q rfl (QO.move) ?_
          refine RS.qv rfl (QO.quo (by rfl) (by rfl) (by omega) (by omega) (by omega)) (congrArg iv (quo_eq hq0)) ?_
          refine RS.q rfl (QO.move) ?_
          refine RS.qv rfl (QO.rem (by rfl) (by rfl) (by omega)) (congrArg iv (rem_eq hq0)) ?_
          refine RS.q rfl (QO.assign) ?_
          refine RS.q rfl (QO.assign) ?_
          refine RS.nil ?_
          refine thenC_n ?_
          refine CS.seq ?_
          refine CS.region ?_
          refine RS.q rfl (QO.assign) ?_
          refine RS.nil ?_
          refine thenC_n ?_
          refine CS.seq ?_
          refine CS.seq ?_
          refine CS.region ?_
          refine RS.q rfl (QO.move) ?_
          refine RS.q rfl (QO.geq (by rfl) (by rfl)) ?_
          refine RS.nil ?_
          refine thenC_n ?_
          refine CS.cond (by rfl) (fun hb3 => ?_) (fun hb3 => ?_)
          · have hb3p := of_decide_eq_true hb3
            refine CS.region ?_
            refine RS.q rfl (QO.move) ?_
            first | (refine RS.q rfl (QO.sub (by rfl) (by rfl) (by omega) (by omega)) ?_) | (refine RS.q rfl (QO.ibin (by rfl) (by rfl) trivial) ?_)
            refine RS.qv rfl (QO.quo (by rfl) (by rfl) (by omega) (by omega) (by omega)) (congrArg iv (quo_eq (show 0 ≤ z % 17982 - 1800 by omega))) ?_
            first | (refine RS.q rfl (QO.add (by rfl) (by rfl) (by omega) (by omega)) ?_) | (refine RS.q rfl (QO.ibin (by rfl) (by rfl) trivial) ?_)
            refine RS.q rfl (QO.assign) ?_
            refine RS.nil ?_
            refine thenC_n ?_
            refine CS.region ?_
            refine RS.q rfl (QO.move) ?_
            first | (refine RS.q rfl (QO.mul (by rfl) (by rfl) (by omega) (by omega)) ?_) | (refine RS.q rfl (QO.ibin (by rfl) (by rfl) trivial) ?_)
            refine RS.q rfl (QO.move) ?_
            first | (refine RS.q rfl (QO.add (by rfl) (by rfl) (by omega) (by omega)) ?_) | (refine RS.q rfl (QO.ibin (by rfl) (by rfl) trivial) ?_)
            refine RS.q rfl (QO.move) ?_
            first | (refine RS.q rfl (QO.mul (by rfl) (by rfl) (by omega) (by omega)) ?_) | (refine RS.q rfl (QO.ibin (by rfl) (by rfl) trivial) ?_)
            first | (refine RS.q rfl (QO.add (by rfl) (by rfl) (by omega) (by omega)) ?_) | (refine RS.q rfl (QO.ibin (by rfl) (by rfl) trivial) ?_)
            refine RS.q rfl (QO.assign) ?_
            refine RS.nil ?_
            refine cutQ_n (by intro t ht; repeat (first | with_reducible exact rfl | exact frame_puts ht (frame_mix ht) _ rfl | (refine frame_put rfl ht ?_) | (refine frame_puts ht ?_ _ rfl) | exact frame_mix ht | (refine frame_mix2 rfl ht ?_) | exact rfl)) ?_
            exact ⟨_, by rw [hb2p]; exact ful_drop (.inl ⟨hb3p, rfl⟩), kn_cons rfl kn_nil, (by repeat (first | exact List.Sublist.refl _ | exact List.nil_sublist _ | refine List.Sublist.cons_cons _ ?_ | refine List.Sublist.cons _ ?_ | exact Sbp.refl | exact Sbp.nil | refine Sbp.cons (by repeat (first | exact Rem.head | apply Rem.tail)) ?_ | exact Sbp.app | refine Sbp.skip ?_))⟩
          · have hb3p := of_decide_eq_false hb3
            refine CS.skip ?_
            refine thenC_n ?_
            refine CS.region ?_
            refine RS.q rfl (QO.move) ?_
            first | (refine RS.q rfl (QO.mul (by rfl) (by rfl) (by omega) (by omega)) ?_) | (refine RS.q rfl (QO.ibin (by rfl) (by rfl) trivial) ?_)
            refine RS.q rfl (QO.move) ?_
            first | (refine RS.q rfl (QO.add (by rfl) (by rfl) (by omega) (by omega)) ?_) | (refine RS.q rfl (QO.ibin (by rfl) (by rfl) trivial) ?_)
            refine RS.q rfl (QO.move) ?_
            first | (refine RS.q rfl (QO.mul (by rfl) (by rfl) (by omega) (by omega)) ?_) | (refine RS.q rfl (QO.ibin (by rfl) (by rfl) trivial) ?_)
            first | (refine RS.q rfl (QO.add (by rfl) (by rfl) (by omega) (by omega)) ?_) | (refine RS.q rfl (QO.ibin (by rfl) (by rfl) trivial) ?_)
            refine RS.q rfl (QO.assign) ?_
            refine RS.nil ?_
            refine cutQ_n (by intro t ht; repeat (first | with_reducible exact rfl | exact frame_puts ht (frame_mix ht) _ rfl | (refine frame_put rfl ht ?_) | (refine frame_puts ht ?_ _ rfl) | exact frame_mix ht | (refine frame_mix2 rfl ht ?_) | exact rfl)) ?_
            exact ⟨_, by rw [hb2p]; exact ful_drop (.inr ⟨by omega, rfl⟩), kn_cons rfl kn_nil, (by repeat (first | exact List.Sublist.refl _ | exact List.nil_sublist _ | refine List.Sublist.cons_cons _ ?_ | refine List.Sublist.cons _ ?_ | exact Sbp.refl | exact Sbp.nil | refine Sbp.cons (by repeat (first | exact Rem.head | apply Rem.tail)) ?_ | exact Sbp.app | refine Sbp.skip ?_))⟩
        · have hb2p := ne_of_beq_false hb2
          refine CS.skip ?_
          refine cutQ_n (by intro t ht; repeat (first | with_reducible exact rfl | exact frame_puts ht (frame_mix ht) _ rfl | (refine frame_put rfl ht ?_) | (refine frame_puts ht ?_ _ rfl) | exact frame_mix ht | (refine frame_mix2 rfl ht ?_) | exact rfl)) ?_
          exact ⟨_, ful_same hb2p, kn_cons rfl kn_nil, (by repeat (first | exact List.Sublist.refl _ | exact List.nil_sublist _ | refine List.Sublist.cons_cons _ ?_ | refine List.Sublist.cons _ ?_ | exact Sbp.refl | exact Sbp.nil | refine Sbp.cons (by repeat (first | exact Rem.head | apply Rem.tail)) ?_ | exact Sbp.app | refine Sbp.skip ?_))⟩
      · intro y gj hz
        have hyb := ful_bd hs hq0 hq1
        rw [← hz] at hyb
        have hsb := sec_bd rate
        have hyd : 0 ≤ y / sec rate ∧ y / sec rate < 86400 := ⟨Int.ediv_nonneg hyb.1 (by omega), Int.ediv_lt_of_lt_mul (by omega) hyb.2⟩
        refine CS.seq ?_
        refine CS.region ?_
        refine RS.q rfl (QO.move) ?_
        refine RS.call rfl (by rfl) ok91 (by rfl) (fun w ho => counted _ _ hs) ?_
        rintro _ _ ⟨rfl, rfl⟩
        refine RS.q rfl (QO.assign) ?_
        refine RS.nil ?_
        refine thenC_n ?_
        refine CS.seq ?_
        refine CS.region ?_
        refine RS.q rfl (QO.move) ?_
        refine RS.q rfl (QO.move) ?_
        refine RS.qv rfl (QO.quo (by rfl) (by rfl) (by omega) (by omega) (by omega)) (congrArg iv (quo_eq hyb.1)) ?_
        refine RS.q rfl (QO.assign) ?_
        refine RS.nil ?_
        refine thenC_n ?_
        refine CS.seq ?_
        refine CS.region ?_
        refine RS.q rfl (QO.move) ?_
        refine RS.qv rfl (QO.quo (by rfl) (by rfl) (by omega) (by omega) (by omega)) (congrArg iv (quo_eq hyd.1)) ?_
        refine RS.q rfl (QO.move) ?_
        refine RS.qv rfl (QO.quo (by rfl) (by rfl) (by omega) (by omega) (by omega)) (congrArg iv (quo_eq hyd.1)) ?_
        refine RS.qv rfl (QO.rem (by rfl) (by rfl) (by omega)) (congrArg iv (rem_eq (show 0 ≤ y / sec rate / 60 by omega))) ?_
        refine RS.q rfl (QO.move) ?_
        refine RS.qv rfl (QO.rem (by rfl) (by rfl) (by omega)) (congrArg iv (rem_eq hyd.1)) ?_
        refine RS.q rfl (QO.move) ?_
        refine RS.q rfl (QO.move) ?_
        refine RS.qv rfl (QO.rem (by rfl) (by rfl) (by omega)) (congrArg iv (rem_eq hyb.1)) ?_
        refine RS.qv rfl (QO.build ty59 pl59 (by rfl)) ((show _ = Value.agg #[iv (y / sec rate / 3600), iv (y / sec rate / 60 % 60), iv (y / sec rate % 60), iv (y % sec rate)] from rfl)) ?_
        first | refine RS.storeB ty59 (by rfl) (by rfl) (by rfl) (by rfl) (by rfl) (by repeat (first | exact Upd.head | apply Upd.tail)) (by rfl) ?_ | refine RS.storeP ty59 (by rfl) (by rfl) (by rfl) (by rfl) (by rfl) (by repeat (first | exact Upd.head | apply Upd.tail)) (by rfl) ?_
        refine RS.q rfl (QO.assign) ?_
        refine RS.nil ?_
        refine thenC_n ?_
        refine CS.ret ?_
        refine retQ.mk (H' := []) (.inr rfl) (RVs.cellA ty59 (by rfl) (by repeat (first | exact List.Mem.head _ | refine List.Mem.tail _ ?_)) (by rfl) (RVs.tmp (by rfl) RVs.nil)) (List.nil_sublist _) ?_
        exact ⟨congrArg (fun a => Value.tuple #[a, iv 0]) (by rw [← hzq]; exact code_end hz), rfl⟩

set_option maxRecDepth 100000 in
theorem codeOf_e (rate n : Int) (W : World) (hs : sec rate = 0) : Fn_ Tryd.prog 36 #[iv rate, iv n] W (fun v H => v = .tuple #[.agg #[iv 0, iv 0, iv 0, iv 0], iv 1] ∧ H = []) := by
  refine Fn_.intro Tryd.func36 rfl rfl (by rfl) ?_
  refine CS.seq ?_
  refine CS.region ?_
  refine RS.alloc rfl ty59 ?_
  intro g4
  refine RS.q rfl (QO.assign) ?_
  refine RS.nil ?_
  refine thenC_n ?_
  refine CS.seq ?_
  refine CS.seq ?_
  refine CS.region ?_
  refine RS.q rfl (QO.move) ?_
  refine RS.call rfl (by rfl) ok93 (by rfl) (fun w ho => isRate _ _) ?_
  rintro _ _ ⟨rfl, rfl⟩
  refine RS.qv rfl (QO.not (by rfl)) (congrArg Value.bool (show (!decide (sec rate ≠ 0)) = true from by rw [decide_eq_false (by simp [hs])]; rfl)) ?_
  refine RS.nil ?_
  refine thenC_n ?_
  refine CS.condT (by rfl) rfl ?_
  refine CS.seq ?_
  refine CS.region ?_
  refine RS.q rfl (QO.build ty59 pl59 (by rfl)) ?_
  first | refine RS.storeB ty59 (by rfl) (by rfl) (by rfl) (by rfl) (by rfl) (by repeat (first | exact Upd.head | apply Upd.tail)) (by rfl) ?_ | refine RS.storeP ty59 (by rfl) (by rfl) (by rfl) (by rfl) (by rfl) (by repeat (first | exact Upd.head | apply Upd.tail)) (by rfl) ?_
  refine RS.q rfl (QO.assign) ?_
  refine RS.nil ?_
  refine thenC_n ?_
  refine CS.ret ?_
  refine thenC_r ?_
  refine retQ.mk (H' := []) (.inr rfl) (RVs.cellA ty59 (by rfl) (by repeat (first | exact List.Mem.head _ | refine List.Mem.tail _ ?_)) (by rfl) (RVs.tmp (by rfl) RVs.nil)) (List.nil_sublist _) ?_
  exact ⟨rfl, rfl⟩

theorem tdiv_bd9 {n d : Int} (hd : 2 ≤ d) (hn : -9223372036854775808 ≤ n ∧ n ≤ 9223372036854775807) : -9223372036854775807 ≤ n.tdiv d ∧ n.tdiv d ≤ 9223372036854775807 := by
  have h1 : (n.tdiv d).natAbs = n.natAbs / d.natAbs := Int.natAbs_tdiv n d
  have h2 : n.natAbs / d.natAbs ≤ n.natAbs / 2 := Nat.div_le_div_left (by omega) (by omega)
  omega

set_option maxRecDepth 100000 in
theorem quotient (n d : Int) (W : World) (hd : 2 ≤ d) (hd2 : d ≤ 1000000000) (hn : -9223372036854775808 ≤ n ∧ n ≤ 9223372036854775807) : Fn_ Tryd.prog 95 #[iv n, iv d] W (fun v H => ∃ q, v = .tuple #[iv q, iv (n % d)] ∧ H = []) := by
  have htm := tmodB (n := n) (show 0 < d by omega)
  have htd := tdiv_bd9 hd hn
  refine Fn_.intro Tryd.func95 rfl rfl (by rfl) ?_
  refine CS.seq ?_
  refine CS.region ?_
  refine RS.q rfl (QO.assign) ?_
  refine RS.q rfl (QO.assign) ?_
  refine RS.nil ?_
  refine thenC_n ?_
  refine CS.seq ?_
  refine CS.draw 8 rfl (by kernel_rfl) (by kernel_rfl) ?_
  refine RT.take (i := 0) rfl (by kernel_rfl) rfl (QO.move) ?_
  refine RT.take (i := 1) rfl (by kernel_rfl) rfl (QO.move) ?_
  refine RT.take (i := 2) rfl (by kernel_rfl) rfl (QO.quo (by rfl) (by rfl) (by omega) (by omega) (by omega)) ?_
  refine RT.take (i := 3) rfl (by kernel_rfl) rfl (QO.move) ?_
  refine RT.take (i := 4) rfl (by kernel_rfl) rfl (QO.move) ?_
  refine RT.take (i := 5) rfl (by kernel_rfl) rfl (QO.rem (by rfl) (by rfl) (by omega)) ?_
  refine RT.take (i := 6) rfl (by kernel_rfl) rfl (QO.assign) ?_
  refine RT.take (i := 7) rfl (by kernel_rfl) rfl (QO.assign) ?_
  refine RT.done (by kernel_rfl) ?_
  refine thenC_n ?_
  refine CS.seq ?_
  refine CS.seq ?_
  refine CS.region ?_
  refine RS.q rfl (QO.move) ?_
  refine RS.q rfl (QO.lss (by rfl) (by rfl)) ?_
  refine RS.nil ?_
  refine thenC_n ?_
  refine CS.cond (by rfl) (fun hb0 => ?_) (fun hb0 => ?_)
  · have hb0p := of_decide_eq_true hb0
    refine CS.region ?_
    refine RS.q rfl (QO.move) ?_
    first | (refine RS.q rfl (QO.sub (by rfl) (by rfl) (by omega) (by omega)) ?_) | (refine RS.q rfl (QO.ibin (by rfl) (by rfl) trivial) ?_)
    refine RS.q rfl (QO.move) ?_
    refine RS.q rfl (QO.move) ?_
    first | (refine RS.q rfl (QO.add (by rfl) (by rfl) (by omega) (by omega)) ?_) | (refine RS.q rfl (QO.ibin (by rfl) (by rfl) trivial) ?_)
    refine RS.q rfl (QO.assign) ?_
    refine RS.q rfl (QO.assign) ?_
    refine RS.nil ?_
    refine thenC_n ?_
    refine CS.seq ?_
    refine CS.region ?_
    refine RS.q rfl (QO.move) ?_
    refine RS.q rfl (QO.move) ?_
    refine RS.q rfl (QO.assign) ?_
    refine RS.q rfl (QO.assign) ?_
    refine RS.nil ?_
    refine thenC_n ?_
    refine CS.ret ?_
    refine retQ.mk (H' := []) (.inr rfl) (RVs.tmp (by rfl) (RVs.tmp (by rfl) RVs.nil)) (List.nil_sublist _) ?_
    exact ⟨_, congrArg (fun a => Value.tuple #[_, iv a]) (mod_neg (by omega) hb0p), rfl⟩
  · have hb0p := of_decide_eq_false hb0
    refine CS.skip ?_
    refine thenC_n ?_
    refine CS.seq ?_
    refine CS.region ?_
    refine RS.q rfl (QO.move) ?_
    refine RS.q rfl (QO.move) ?_
    refine RS.q rfl (QO.assign) ?_
    refine RS.q rfl (QO.assign) ?_
    refine RS.nil ?_
    refine thenC_n ?_
    refine CS.ret ?_
    refine retQ.mk (H' := []) (.inr rfl) (RVs.tmp (by rfl) (RVs.tmp (by rfl) RVs.nil)) (List.nil_sublist _) ?_
    exact ⟨_, congrArg (fun a => Value.tuple #[_, iv a]) (mod_pos (by omega) hb0p), rfl⟩

set_option maxHeartbeats 4000000 in
set_option maxRecDepth 100000 in
theorem rcodeOf (rate n : Int) (W : World) (hs : sec rate ≠ 0) (hn : -9223372036854775808 ≤ n ∧ n ≤ 9223372036854775807) : Fn_ Tryd.prog 37 #[iv rate, iv n] W (fun v H => v = cdV rate (n % dayN rate) ∧ H = []) := by
  have hsb := sec_bd rate
  refine Fn_.intro Tryd.func37 rfl rfl (by rfl) ?_
  refine CS.seq ?_
  refine CS.region ?_
  refine RS.alloc rfl ty59 ?_
  intro g4
  refine RS.nil ?_
  refine thenC_n ?_
  refine CS.seq ?_
  refine CS.region ?_
  refine RS.q rfl (QO.move) ?_
  refine RS.call rfl (by rfl) ok88 (by rfl) (fun w ho => second _ _) ?_
  rintro _ _ ⟨rfl, rfl⟩
  refine RS.q rfl (QO.assign) ?_
  refine RS.nil ?_
  refine thenC_n ?_
  refine CS.seq ?_
  refine CS.region ?_
  refine RS.q rfl (QO.move) ?_
  first | (refine RS.q rfl (QO.mul (by rfl) (by rfl) (by omega) (by omega)) ?_) | (refine RS.q rfl (QO.ibin (by rfl) (by rfl) trivial) ?_)
  refine RS.q rfl (QO.assign) ?_
  refine RS.nil ?_
  refine thenC_n ?_
  refine CS.cut (X := Unit) [6, 13, 14, 15, 16] (fun z => [(6, iv (dayN rate))]) (fun z => [⟨g4, 59, [iv 0, iv 0, iv 0, iv 0]⟩]) (fun z => True) ?_ ?_
  · refine CS.seq ?_
    refine CS.region ?_
    refine RS.q rfl (QO.move) ?_
    refine RS.q rfl (QO.eql (by rfl) (by rfl)) ?_
    refine RS.nil ?_
    refine thenC_n ?_
    refine CS.cond (by rfl) (fun hb0 => ?_) (fun hb0 => ?_)
    · have hb0p := eq_of_beq hb0
      refine CS.region ?_
      refine RS.q rfl (QO.move) ?_
      first | (refine RS.q rfl (QO.sub (by rfl) (by rfl) (by omega) (by omega)) ?_) | (refine RS.q rfl (QO.ibin (by rfl) (by rfl) trivial) ?_)
      refine RS.q rfl (QO.assign) ?_
      refine RS.nil ?_
      refine cutQ_n (by intro t ht; repeat (first | with_reducible exact rfl | exact frame_puts ht (frame_mix ht) _ rfl | (refine frame_put rfl ht ?_) | (refine frame_puts ht ?_ _ rfl) | exact frame_mix ht | (refine frame_mix2 rfl ht ?_) | exact rfl)) ?_
      exact ⟨(), trivial, kn_cons (congrArg iv (day_r hb0p)) kn_nil, (by repeat (first | exact List.Sublist.refl _ | exact List.nil_sublist _ | refine List.Sublist.cons_cons _ ?_ | refine List.Sublist.cons _ ?_ | exact Sbp.refl | exact Sbp.nil | refine Sbp.cons (by repeat (first | exact Rem.head | apply Rem.tail)) ?_ | exact Sbp.app | refine Sbp.skip ?_))⟩
    · have hb0p := ne_of_beq_false hb0
      refine CS.skip ?_
      refine cutQ_n (by intro t ht; repeat (first | with_reducible exact rfl | exact frame_puts ht (frame_mix ht) _ rfl | (refine frame_put rfl ht ?_) | (refine frame_puts ht ?_ _ rfl) | exact frame_mix ht | (refine frame_mix2 rfl ht ?_) | exact rfl)) ?_
      exact ⟨(), trivial, kn_cons (congrArg iv (day_s hb0p)) kn_nil, (by repeat (first | exact List.Sublist.refl _ | exact List.nil_sublist _ | refine List.Sublist.cons_cons _ ?_ | refine List.Sublist.cons _ ?_ | exact Sbp.refl | exact Sbp.nil | refine Sbp.cons (by repeat (first | exact Rem.head | apply Rem.tail)) ?_ | exact Sbp.app | refine Sbp.skip ?_))⟩
  · intro z gj hz
    have hdb := day_bd hs
    refine CS.seq ?_
    refine CS.region ?_
    refine RS.q rfl (QO.move) ?_
    refine RS.q rfl (QO.move) ?_
    refine RS.call rfl (by rfl) ok95 (by rfl) (fun w ho => quotient n (dayN rate) _ (by omega) (by omega) hn) ?_
    rintro _ _ ⟨qq, rfl, rfl⟩
    refine RS.q rfl (QO.move) ?_
    refine RS.q rfl (QO.extract (by rfl) (by rfl)) ?_
    refine RS.q rfl (QO.extract (by rfl) (by rfl)) ?_
    refine RS.q rfl (QO.assign) ?_
    refine RS.nil ?_
    refine thenC_n ?_
    refine CS.cut (X := Int) (1 :: 7 :: 8 :: 23 :: 24 :: 25 :: 26 :: 27 :: 28 :: 29 :: 30 :: 31 :: 32 :: 33 :: 34 :: 35 :: 36 :: 37 :: 38 :: 39 :: 40 :: 41 :: []) (fun y => [(1, iv y)]) (fun y => [⟨g4, 59, [iv 0, iv 0, iv 0, iv 0]⟩]) (fun y => y = fulN rate (n % dayN rate)) ?_ ?_
    · refine CS.seq ?_
      refine CS.region ?_
      have hq0 := Int.emod_nonneg n (show dayN rate ≠ 0 by omega)
      have hq1 := Int.emod_lt_of_pos n (show 0 < dayN rate by omega)
      have hqd : 0 ≤ (n % dayN rate) / 17982 ∧ (n % dayN rate) / 17982 ≤ 300 ∧ 0 ≤ (n % dayN rate) % 17982 ∧ (n % dayN rate) % 17982 < 17982 := by omega
      refine RS.q rfl (QO.move) ?_
      refine RS.q rfl (QO.eql (by rfl) (by rfl)) ?_
      refine RS.nil ?_
      refine thenC_n ?_
      refine CS.cond (by rfl) (fun hb1 => ?_) (fun hb1 => ?_)
      · have hb1p := eq_of_beq hb1
        refine CS.seq ?_
        refine CS.region ?_
        refine RS.q rfl (QO.move) ?_
        refine RS.qv rfl (QO.quo (by rfl) (by rfl) (by omega) (by omega) (by omega)) (congrArg iv (quo_eq hq0)) ?_
        refine RS.q rfl (QO.move) ?_
        refine RS.qv rfl (QO.rem (by rfl) (by rfl) (by omega)) (congrArg iv (rem_eq hq0)) ?_
        refine RS.q rfl (QO.assign) ?_
        refine RS.q rfl (QO.assign) ?_
        refine RS.nil ?_
        refine thenC_n ?_
        refine CS.seq ?_
        refine CS.region ?_
        refine RS.q rfl (QO.move) ?_
        refine RS.q rfl (QO.move) ?_
        first | (refine RS.q rfl (QO.mul (by rfl) (by rfl) (by omega) (by omega)) ?_) | (refine RS.q rfl (QO.ibin (by rfl) (by rfl) trivial) ?_)
        first | (refine RS.q rfl (QO.add (by rfl) (by rfl) (by omega) (by omega)) ?_) | (refine RS.q rfl (QO.ibin (by rfl) (by rfl) trivial) ?_)
        refine RS.q rfl (QO.assign) ?_
        refine RS.nil ?_
        refine thenC_n ?_
        refine CS.seq ?_
        refine CS.region ?_
        refine RS.q rfl (QO.move) ?_
        refine RS.q rfl (QO.geq (by rfl) (by rfl)) ?_
        refine RS.nil ?_
        refine thenC_n ?_
        refine CS.cond (by rfl) (fun hb2 => ?_) (fun hb2 => ?_)
        · have hb2p := of_decide_eq_true hb2
          refine CS.region ?_
          refine RS.q rfl (QO.move) ?_
          refine RS.q rfl (QO.move) ?_
          first | (refine RS.q rfl (QO.sub (by rfl) (by rfl) (by omega) (by omega)) ?_) | (refine RS.q rfl (QO.ibin (by rfl) (by rfl) trivial) ?_)
          refine RS.qv rfl (QO.quo (by rfl) (by rfl) (by omega) (by omega) (by omega)) (congrArg iv (quo_eq (show 0 ≤ (n % dayN rate) % 17982 - 1800 by omega))) ?_
          first | (refine RS.q rfl (QO.add (by rfl) (by rfl) (by omega) (by omega)) ?_) | (refine RS.q rfl (QO.ibin (by rfl) (by rfl) trivial) ?_)
          first | (refine RS.q rfl (QO.mul (by rfl) (by rfl) (by omega) (by omega)) ?_) | (refine RS.q rfl (QO.ibin (by rfl) (by rfl) trivial) ?_)
          first | (refine RS.q rfl (QO.add (by rfl) (by rfl) (by omega) (by omega)) ?_) | (refine RS.q rfl (QO.ibin (by rfl) (by rfl) trivial) ?_)
          refine RS.q rfl (QO.assign) ?_
          refine RS.nil ?_
          refine cutQ_n (by intro t ht; repeat (first | with_reducible exact rfl | exact frame_puts ht (frame_mix ht) _ rfl | (refine frame_put rfl ht ?_) | (refine frame_puts ht ?_ _ rfl) | exact frame_mix ht | (refine frame_mix2 rfl ht ?_) | exact rfl)) ?_
          exact ⟨_, by rw [hb1p]; rw [hb1p] at hq0 hq1 hqd hb2p; rw [← ful_drop (.inl ⟨hb2p, rfl⟩)]; omega, kn_cons rfl kn_nil, (by repeat (first | exact List.Sublist.refl _ | exact List.nil_sublist _ | refine List.Sublist.cons_cons _ ?_ | refine List.Sublist.cons _ ?_ | exact Sbp.refl | exact Sbp.nil | refine Sbp.cons (by repeat (first | exact Rem.head | apply Rem.tail)) ?_ | exact Sbp.app | refine Sbp.skip ?_))⟩
        · have hb2p := of_decide_eq_false hb2
          refine CS.skip ?_
          refine cutQ_n (by intro t ht; repeat (first | with_reducible exact rfl | exact frame_puts ht (frame_mix ht) _ rfl | (refine frame_put rfl ht ?_) | (refine frame_puts ht ?_ _ rfl) | exact frame_mix ht | (refine frame_mix2 rfl ht ?_) | exact rfl)) ?_
          exact ⟨_, by rw [hb1p]; rw [hb1p] at hq0 hq1 hqd hb2p; rw [← ful_drop (.inr ⟨by omega, rfl⟩)]; omega, kn_cons rfl kn_nil, (by repeat (first | exact List.Sublist.refl _ | exact List.nil_sublist _ | refine List.Sublist.cons_cons _ ?_ | refine List.Sublist.cons _ ?_ | exact Sbp.refl | exact Sbp.nil | refine Sbp.cons (by repeat (first | exact Rem.head | apply Rem.tail)) ?_ | exact Sbp.app | refine Sbp.skip ?_))⟩
      · have hb1p := ne_of_beq_false hb1
        refine CS.skip ?_
        refine cutQ_n (by intro t ht; repeat (first | with_reducible exact rfl | exact frame_puts ht (frame_mix ht) _ rfl | (refine frame_put rfl ht ?_) | (refine frame_puts ht ?_ _ rfl) | exact frame_mix ht | (refine frame_mix2 rfl ht ?_) | exact rfl)) ?_
        exact ⟨_, ful_same hb1p, kn_cons rfl kn_nil, (by repeat (first | exact List.Sublist.refl _ | exact List.nil_sublist _ | refine List.Sublist.cons_cons _ ?_ | refine List.Sublist.cons _ ?_ | exact Sbp.refl | exact Sbp.nil | refine Sbp.cons (by repeat (first | exact Rem.head | apply Rem.tail)) ?_ | exact Sbp.app | refine Sbp.skip ?_))⟩
    · intro y gj hz
      have hq0 := Int.emod_nonneg n (show dayN rate ≠ 0 by omega)
      have hq1 := Int.emod_lt_of_pos n (show 0 < dayN rate by omega)
      have hyb := ful_bd hs hq0 hq1
      rw [← hz] at hyb
      have hyd : 0 ≤ y / sec rate ∧ y / sec rate < 86400 := ⟨Int.ediv_nonneg hyb.1 (by omega), Int.ediv_lt_of_lt_mul (by omega) hyb.2⟩
      refine CS.seq ?_
      refine CS.draw 17 rfl (by kernel_rfl) (by kernel_rfl) ?_
      refine RT.take (i := 0) rfl (by kernel_rfl) rfl (QO.move) ?_
      refine RT.take (i := 1) rfl (by kernel_rfl) rfl (QO.move) ?_
      refine RT.takev (i := 2) rfl (by kernel_rfl) rfl (QO.quo (by rfl) (by rfl) (by omega) (by omega) (by omega)) (congrArg iv (quo_eq hyb.1)) ?_
      refine RT.takev (i := 3) rfl (by kernel_rfl) rfl (QO.quo (by rfl) (by rfl) (by omega) (by omega) (by omega)) (congrArg iv (quo_eq hyd.1)) ?_
      refine RT.take (i := 4) rfl (by kernel_rfl) rfl (QO.move) ?_
      refine RT.take (i := 5) rfl (by kernel_rfl) rfl (QO.move) ?_
      refine RT.takev (i := 6) rfl (by kernel_rfl) rfl (QO.quo (by rfl) (by rfl) (by omega) (by omega) (by omega)) (congrArg iv (quo_eq hyb.1)) ?_
      refine RT.takev (i := 7) rfl (by kernel_rfl) rfl (QO.quo (by rfl) (by rfl) (by omega) (by omega) (by omega)) (congrArg iv (quo_eq hyd.1)) ?_
      refine RT.takev (i := 8) rfl (by kernel_rfl) rfl (QO.rem (by rfl) (by rfl) (by omega)) (congrArg iv (rem_eq (show 0 ≤ y / sec rate / 60 by omega))) ?_
      refine RT.take (i := 9) rfl (by kernel_rfl) rfl (QO.move) ?_
      refine RT.take (i := 10) rfl (by kernel_rfl) rfl (QO.move) ?_
      refine RT.takev (i := 11) rfl (by kernel_rfl) rfl (QO.quo (by rfl) (by rfl) (by omega) (by omega) (by omega)) (congrArg iv (quo_eq hyb.1)) ?_
      refine RT.takev (i := 12) rfl (by kernel_rfl) rfl (QO.rem (by rfl) (by rfl) (by omega)) (congrArg iv (rem_eq hyd.1)) ?_
      refine RT.take (i := 13) rfl (by kernel_rfl) rfl (QO.move) ?_
      refine RT.take (i := 14) rfl (by kernel_rfl) rfl (QO.move) ?_
      refine RT.takev (i := 15) rfl (by kernel_rfl) rfl (QO.rem (by rfl) (by rfl) (by omega)) (congrArg iv (rem_eq hyb.1)) ?_
      refine RT.takev (i := 16) rfl (by kernel_rfl) rfl (QO.build ty59 pl59 (by rfl)) ((show _ = Value.agg #[iv (y / sec rate / 3600), iv (y / sec rate / 60 % 60), iv (y / sec rate % 60), iv (y % sec rate)] from rfl)) ?_
      refine RT.tail (i := 17) (by kernel_rfl) rfl rfl ?_
      first | refine RS.storeB ty59 (by rfl) (by rfl) (by rfl) (by rfl) (by rfl) (by repeat (first | exact Upd.head | apply Upd.tail)) (by rfl) ?_ | refine RS.storeP ty59 (by rfl) (by rfl) (by rfl) (by rfl) (by rfl) (by repeat (first | exact Upd.head | apply Upd.tail)) (by rfl) ?_
      refine RS.nil ?_
      refine RT.done (by kernel_rfl) ?_
      refine thenC_n ?_
      refine CS.ret ?_
      refine retQ.mk (H' := []) (.inr rfl) (RVs.cellA ty59 (by rfl) (by repeat (first | exact List.Mem.head _ | refine List.Mem.tail _ ?_)) (by rfl) RVs.nil) (List.nil_sublist _) ?_
      exact ⟨code_end hz, rfl⟩

def frmV (r h m s f : Int) : Value := .tuple #[iv (if codE r h m s f = 0 then frmN r h m s f else 0), iv (codE r h m s f)]
theorem frm_e {r h m s f : Int} (e : codE r h m s f ≠ 0) : Value.tuple #[iv 0, iv (codE r h m s f)] = frmV r h m s f := by unfold frmV; rw [if_neg e]
theorem frm_k {r h m s f x : Int} (e : codE r h m s f = 0) (hx : x = frmN r h m s f) : Value.tuple #[iv x, iv 0] = frmV r h m s f := by unfold frmV; rw [if_pos e, e, hx]
theorem frm_T {r h m s f : Int} (e : r = 29) : (60 * (60 * h + m) + s) * sec r + f - 2 * ((60 * h + m) - (60 * h + m) / 10) = frmN r h m s f := by unfold frmN; rw [if_pos e]
theorem frm_F {r h m s f : Int} (e : ¬ r = 29) : (60 * (60 * h + m) + s) * sec r + f = frmN r h m s f := by unfold frmN; rw [if_neg e]; omega
theorem mulb {a k : Int} (h1 : 0 ≤ a) (h2 : a ≤ 86399) (h3 : 0 ≤ k) (h4 : k ≤ 60) : 0 ≤ a * k ∧ a * k ≤ 5183940 := ⟨Int.mul_nonneg h1 h3, by
  have := Int.mul_le_mul h2 h4 h3 (by omega)
  omega⟩

set_option maxHeartbeats 4000000 in
set_option maxRecDepth 100000 in
theorem frames_ (rate h m s f : Int) (W : World) : Fn_ Tryd.prog 30 #[iv rate, .agg #[iv h, iv m, iv s, iv f]] W (fun v H => v = frmV rate h m s f ∧ H = []) := by
  refine Fn_.intro Tryd.func30 rfl rfl (by rfl) ?_
  refine CS.seq ?_
  refine CS.region ?_
  refine RS.box rfl (by rfl) (by rfl) ?_
  intro g3
  refine RS.q rfl (QO.assign) ?_
  refine RS.q rfl (QO.assign) ?_
  refine RS.nil ?_
  refine thenC_n ?_
  refine CS.seq ?_
  refine CS.seq ?_
  refine CS.region ?_
  refine RS.q rfl (QO.move) ?_
  first | (refine RS.q rfl (QO.loadB ty59 (by rfl) (by repeat (first | exact List.Mem.head _ | refine List.Mem.tail _ ?_)) (by rfl)) ?_) | (refine RS.q rfl (QO.loadA ty59 (by rfl) (by repeat (first | exact List.Mem.head _ | refine List.Mem.tail _ ?_)) (by rfl) (by rfl)) ?_) | (refine RS.q rfl (QO.loadOA ty59 (by rfl) (by assumption) (by rfl)) ?_)
  refine RS.call rfl (by rfl) ok90 (by rfl) (fun w ho => checkCode _ _ _ _ _ _) ?_
  rintro _ _ ⟨rfl, rfl⟩
  refine RS.q rfl (QO.assign) ?_
  refine RS.nil ?_
  refine thenC_n ?_
  refine CS.seq ?_
  refine CS.region ?_
  refine RS.q rfl (QO.move) ?_
  refine RS.q rfl (QO.neq (by rfl) (by rfl)) ?_
  refine RS.nil ?_
  refine thenC_n ?_
  refine CS.cond (by rfl) (fun hb0 => ?_) (fun hb0 => ?_)
  · have hb0p := bne_iff_ne.1 hb0
    refine CS.seq ?_
    refine CS.region ?_
    refine RS.q rfl (QO.move) ?_
    refine RS.q rfl (QO.assign) ?_
    refine RS.q rfl (QO.assign) ?_
    refine RS.nil ?_
    refine thenC_n ?_
    refine CS.ret ?_
    refine thenC_r ?_
    refine retQ.mk (H' := []) (.inr rfl) (RVs.tmp (by rfl) (RVs.tmp (by rfl) RVs.nil)) (List.nil_sublist _) ?_
    exact ⟨frm_e hb0p, rfl⟩
  · have hb0p := of_bne_false hb0
    refine CS.skip ?_
    refine thenC_n ?_
    refine CS.seq ?_
    refine CS.region ?_
    have hok := of_bne_false hb0
    have hc := codE_ok hok
    have hsb := sec_bd rate
    have hmb := mulb (a := 60 * (60 * h + m) + s) (k := sec rate) (by omega) (by omega) (by omega) (by omega)
    refine RS.q rfl (QO.fieldAddr fo59_0 (by rfl)) ?_
    first | (refine RS.q rfl (QO.load ty3 (by rfl) (by repeat (first | exact List.Mem.head _ | refine List.Mem.tail _ ?_)) (by rfl)) ?_) | (refine RS.q rfl (QO.loadO ty3 (by rfl) (by assumption)) ?_) | (refine RS.q rfl (QO.load ty3 (by rfl) (by repeat (first | exact List.Mem.head _ | refine List.Mem.tail _ ?_)) (by assumption)) ?_)
    first | (refine RS.q rfl (QO.mul (by rfl) (by rfl) (by omega) (by omega)) ?_) | (refine RS.q rfl (QO.ibin (by rfl) (by rfl) trivial) ?_)
    refine RS.q rfl (QO.fieldAddr fo59_1 (by rfl)) ?_
    first | (refine RS.q rfl (QO.load ty3 (by rfl) (by repeat (first | exact List.Mem.head _ | refine List.Mem.tail _ ?_)) (by rfl)) ?_) | (refine RS.q rfl (QO.loadO ty3 (by rfl) (by assumption)) ?_) | (refine RS.q rfl (QO.load ty3 (by rfl) (by repeat (first | exact List.Mem.head _ | refine List.Mem.tail _ ?_)) (by assumption)) ?_)
    first | (refine RS.q rfl (QO.add (by rfl) (by rfl) (by omega) (by omega)) ?_) | (refine RS.q rfl (QO.ibin (by rfl) (by rfl) trivial) ?_)
    refine RS.q rfl (QO.assign) ?_
    refine RS.nil ?_
    refine thenC_n ?_
    refine CS.seq ?_
    refine CS.draw 12 rfl (by kernel_rfl) (by kernel_rfl) ?_
    refine RT.take (i := 0) rfl (by kernel_rfl) rfl (QO.move) ?_
    first | (refine RT.take (i := 1) rfl (by kernel_rfl) rfl (QO.mul (by rfl) (by rfl) (by omega) (by omega)) ?_) | (refine RT.take (i := 1) rfl (by kernel_rfl) rfl (QO.ibin (by rfl) (by rfl) trivial) ?_)
    refine RT.take (i := 2) rfl (by kernel_rfl) rfl (QO.fieldAddr fo59_2 (by rfl)) ?_
    first | (refine RT.take (i := 3) rfl (by kernel_rfl) rfl (QO.load ty3 (by rfl) (by repeat (first | exact List.Mem.head _ | refine List.Mem.tail _ ?_)) (by rfl)) ?_) | (refine RT.take (i := 3) rfl (by kernel_rfl) rfl (QO.loadO ty3 (by rfl) (by assumption)) ?_) | (refine RT.take (i := 3) rfl (by kernel_rfl) rfl (QO.load ty3 (by rfl) (by repeat (first | exact List.Mem.head _ | refine List.Mem.tail _ ?_)) (by assumption)) ?_)
    first | (refine RT.take (i := 4) rfl (by kernel_rfl) rfl (QO.add (by rfl) (by rfl) (by omega) (by omega)) ?_) | (refine RT.take (i := 4) rfl (by kernel_rfl) rfl (QO.ibin (by rfl) (by rfl) trivial) ?_)
    refine RT.take (i := 5) rfl (by kernel_rfl) rfl (QO.move) ?_
    refine RT.take (i := 8) rfl (by kernel_rfl) rfl (QO.fieldAddr fo59_3 (by rfl)) ?_
    first | (refine RT.take (i := 9) rfl (by kernel_rfl) rfl (QO.load ty3 (by rfl) (by repeat (first | exact List.Mem.head _ | refine List.Mem.tail _ ?_)) (by rfl)) ?_) | (refine RT.take (i := 9) rfl (by kernel_rfl) rfl (QO.loadO ty3 (by rfl) (by assumption)) ?_) | (refine RT.take (i := 9) rfl (by kernel_rfl) rfl (QO.load ty3 (by rfl) (by repeat (first | exact List.Mem.head _ | refine List.Mem.tail _ ?_)) (by assumption)) ?_)
    refine RT.one (i := 6) (by kernel_rfl) rfl rfl ?_
    refine RS.call rfl (by rfl) ok91 (by rfl) (fun w ho => counted _ _ hc.1) ?_
    rintro _ _ ⟨rfl, rfl⟩
    refine RS.nil ⟨(by repeat (first | exact List.Sublist.refl _ | exact List.nil_sublist _ | refine List.Sublist.cons_cons _ ?_ | refine List.Sublist.cons _ ?_ | exact Sbp.refl | exact Sbp.nil | refine Sbp.cons (by repeat (first | exact Rem.head | apply Rem.tail)) ?_ | exact Sbp.app | refine Sbp.skip ?_)), ?_⟩
    refine RT.take (i := 7) rfl (by kernel_rfl) rfl (QO.mul (by rfl) (by rfl) (by omega) (by omega)) ?_
    first | (refine RT.take (i := 10) rfl (by kernel_rfl) rfl (QO.add (by rfl) (by rfl) (by omega) (by omega)) ?_) | (refine RT.take (i := 10) rfl (by kernel_rfl) rfl (QO.ibin (by rfl) (by rfl) trivial) ?_)
    refine RT.take (i := 11) rfl (by kernel_rfl) rfl (QO.assign) ?_
    refine RT.done (by kernel_rfl) ?_
    refine thenC_n ?_
    refine CS.seq ?_
    refine CS.seq ?_
    refine CS.region ?_
    refine RS.q rfl (QO.move) ?_
    refine RS.q rfl (QO.eql (by rfl) (by rfl)) ?_
    refine RS.nil ?_
    refine thenC_n ?_
    refine CS.cond (by rfl) (fun hb1 => ?_) (fun hb1 => ?_)
    · have hb1p := eq_of_beq hb1
      refine CS.region ?_
      refine RS.q rfl (QO.move) ?_
      refine RS.q rfl (QO.move) ?_
      refine RS.q rfl (QO.move) ?_
      refine RS.qv rfl (QO.quo (by rfl) (by rfl) (by omega) (by omega) (by omega)) (congrArg iv (quo_eq (show 0 ≤ 60 * h + m by omega))) ?_
      first | (refine RS.q rfl (QO.sub (by rfl) (by rfl) (by omega) (by omega)) ?_) | (refine RS.q rfl (QO.ibin (by rfl) (by rfl) trivial) ?_)
      first | (refine RS.q rfl (QO.mul (by rfl) (by rfl) (by omega) (by omega)) ?_) | (refine RS.q rfl (QO.ibin (by rfl) (by rfl) trivial) ?_)
      first | (refine RS.q rfl (QO.sub (by rfl) (by rfl) (by omega) (by omega)) ?_) | (refine RS.q rfl (QO.ibin (by rfl) (by rfl) trivial) ?_)
      refine RS.q rfl (QO.assign) ?_
      refine RS.nil ?_
      refine thenC_n ?_
      refine CS.seq ?_
      refine CS.region ?_
      refine RS.q rfl (QO.move) ?_
      refine RS.q rfl (QO.assign) ?_
      refine RS.q rfl (QO.assign) ?_
      refine RS.nil ?_
      refine thenC_n ?_
      refine CS.ret ?_
      refine retQ.mk (H' := []) (.inr rfl) (RVs.tmp (by rfl) (RVs.tmp (by rfl) RVs.nil)) (List.nil_sublist _) ?_
      exact ⟨frm_k hok (frm_T hb1p), rfl⟩
    · have hb1p := ne_of_beq_false hb1
      refine CS.skip ?_
      refine thenC_n ?_
      refine CS.seq ?_
      refine CS.region ?_
      refine RS.q rfl (QO.move) ?_
      refine RS.q rfl (QO.assign) ?_
      refine RS.q rfl (QO.assign) ?_
      refine RS.nil ?_
      refine thenC_n ?_
      refine CS.ret ?_
      refine retQ.mk (H' := []) (.inr rfl) (RVs.tmp (by rfl) (RVs.tmp (by rfl) RVs.nil)) (List.nil_sublist _) ?_
      exact ⟨frm_k hok (frm_F hb1p), rfl⟩

set_option maxHeartbeats 4000000 in
set_option maxRecDepth 100000 in
theorem rframes (rate h m s f : Int) (W : World) (hok : codE rate h m s f = 0) : Fn_ Tryd.prog 33 #[iv rate, .agg #[iv h, iv m, iv s, iv f]] W (fun v H => v = iv (frmN rate h m s f) ∧ H = []) := by
  have hc := codE_ok hok
  have hsb := sec_bd rate
  have hmb := mulb (a := 60 * (60 * h + m) + s) (k := sec rate) (by omega) (by omega) (by omega) (by omega)
  refine Fn_.intro Tryd.func33 rfl rfl (by rfl) ?_
  refine CS.seq ?_
  refine CS.region ?_
  refine RS.box rfl (by rfl) (by rfl) ?_
  intro g3
  refine RS.q rfl (QO.assign) ?_
  refine RS.nil ?_
  refine thenC_n ?_
  refine CS.seq ?_
  refine CS.region ?_
  refine RS.q rfl (QO.move) ?_
  refine RS.call rfl (by rfl) ok88 (by rfl) (fun w ho => second _ _) ?_
  rintro _ _ ⟨rfl, rfl⟩
  refine RS.q rfl (QO.assign) ?_
  refine RS.nil ?_
  refine thenC_n ?_
  refine CS.seq ?_
  refine CS.region ?_
  refine RS.q rfl (QO.fieldAddr fo59_0 (by rfl)) ?_
  first | (refine RS.q rfl (QO.load ty3 (by rfl) (by repeat (first | exact List.Mem.head _ | refine List.Mem.tail _ ?_)) (by rfl)) ?_) | (refine RS.q rfl (QO.loadO ty3 (by rfl) (by assumption)) ?_) | (refine RS.q rfl (QO.load ty3 (by rfl) (by repeat (first | exact List.Mem.head _ | refine List.Mem.tail _ ?_)) (by assumption)) ?_)
  first | (refine RS.q rfl (QO.mul (by rfl) (by rfl) (by omega) (by omega)) ?_) | (refine RS.q rfl (QO.ibin (by rfl) (by rfl) trivial) ?_)
  refine RS.q rfl (QO.fieldAddr fo59_1 (by rfl)) ?_
  first | (refine RS.q rfl (QO.load ty3 (by rfl) (by repeat (first | exact List.Mem.head _ | refine List.Mem.tail _ ?_)) (by rfl)) ?_) | (refine RS.q rfl (QO.loadO ty3 (by rfl) (by assumption)) ?_) | (refine RS.q rfl (QO.load ty3 (by rfl) (by repeat (first | exact List.Mem.head _ | refine List.Mem.tail _ ?_)) (by assumption)) ?_)
  first | (refine RS.q rfl (QO.add (by rfl) (by rfl) (by omega) (by omega)) ?_) | (refine RS.q rfl (QO.ibin (by rfl) (by rfl) trivial) ?_)
  first | (refine RS.q rfl (QO.mul (by rfl) (by rfl) (by omega) (by omega)) ?_) | (refine RS.q rfl (QO.ibin (by rfl) (by rfl) trivial) ?_)
  refine RS.q rfl (QO.fieldAddr fo59_2 (by rfl)) ?_
  first | (refine RS.q rfl (QO.load ty3 (by rfl) (by repeat (first | exact List.Mem.head _ | refine List.Mem.tail _ ?_)) (by rfl)) ?_) | (refine RS.q rfl (QO.loadO ty3 (by rfl) (by assumption)) ?_) | (refine RS.q rfl (QO.load ty3 (by rfl) (by repeat (first | exact List.Mem.head _ | refine List.Mem.tail _ ?_)) (by assumption)) ?_)
  first | (refine RS.qv rfl (QO.add (by rfl) (by rfl) (by omega) (by omega)) (congrArg iv (show (h * 60 + m) * 60 + s = 60 * (60 * h + m) + s by omega)) ?_) | (refine RS.qv rfl (QO.ibin (by rfl) (by rfl) trivial) (congrArg iv (show (h * 60 + m) * 60 + s = 60 * (60 * h + m) + s by omega)) ?_)
  refine RS.q rfl (QO.move) ?_
  refine RS.q rfl (QO.mul (by rfl) (by rfl) (by omega) (by omega)) ?_
  refine RS.q rfl (QO.fieldAddr fo59_3 (by rfl)) ?_
  first | (refine RS.q rfl (QO.load ty3 (by rfl) (by repeat (first | exact List.Mem.head _ | refine List.Mem.tail _ ?_)) (by rfl)) ?_) | (refine RS.q rfl (QO.loadO ty3 (by rfl) (by assumption)) ?_) | (refine RS.q rfl (QO.load ty3 (by rfl) (by repeat (first | exact List.Mem.head _ | refine List.Mem.tail _ ?_)) (by assumption)) ?_)
  first | (refine RS.q rfl (QO.add (by rfl) (by rfl) (by omega) (by omega)) ?_) | (refine RS.q rfl (QO.ibin (by rfl) (by rfl) trivial) ?_)
  refine RS.q rfl (QO.assign) ?_
  refine RS.nil ?_
  refine thenC_n ?_
  refine CS.seq ?_
  refine CS.seq ?_
  refine CS.region ?_
  refine RS.q rfl (QO.move) ?_
  refine RS.q rfl (QO.eql (by rfl) (by rfl)) ?_
  refine RS.nil ?_
  refine thenC_n ?_
  refine CS.cond (by rfl) (fun hb0 => ?_) (fun hb0 => ?_)
  · have hb0p := eq_of_beq hb0
    refine CS.seq ?_
    refine CS.region ?_
    refine RS.q rfl (QO.fieldAddr fo59_0 (by rfl)) ?_
    first | (refine RS.q rfl (QO.load ty3 (by rfl) (by repeat (first | exact List.Mem.head _ | refine List.Mem.tail _ ?_)) (by rfl)) ?_) | (refine RS.q rfl (QO.loadO ty3 (by rfl) (by assumption)) ?_) | (refine RS.q rfl (QO.load ty3 (by rfl) (by repeat (first | exact List.Mem.head _ | refine List.Mem.tail _ ?_)) (by assumption)) ?_)
    first | (refine RS.q rfl (QO.mul (by rfl) (by rfl) (by omega) (by omega)) ?_) | (refine RS.q rfl (QO.ibin (by rfl) (by rfl) trivial) ?_)
    refine RS.q rfl (QO.fieldAddr fo59_1 (by rfl)) ?_
    first | (refine RS.q rfl (QO.load ty3 (by rfl) (by repeat (first | exact List.Mem.head _ | refine List.Mem.tail _ ?_)) (by rfl)) ?_) | (refine RS.q rfl (QO.loadO ty3 (by rfl) (by assumption)) ?_) | (refine RS.q rfl (QO.load ty3 (by rfl) (by repeat (first | exact List.Mem.head _ | refine List.Mem.tail _ ?_)) (by assumption)) ?_)
    first | (refine RS.q rfl (QO.add (by rfl) (by rfl) (by omega) (by omega)) ?_) | (refine RS.q rfl (QO.ibin (by rfl) (by rfl) trivial) ?_)
    refine RS.q rfl (QO.assign) ?_
    refine RS.nil ?_
    refine thenC_n ?_
    refine CS.region ?_
    refine RS.q rfl (QO.move) ?_
    refine RS.q rfl (QO.move) ?_
    refine RS.q rfl (QO.move) ?_
    refine RS.qv rfl (QO.quo (by rfl) (by rfl) (by omega) (by omega) (by omega)) (congrArg iv (quo_eq (show 0 ≤ h * 60 + m by omega))) ?_
    first | (refine RS.q rfl (QO.sub (by rfl) (by rfl) (by omega) (by omega)) ?_) | (refine RS.q rfl (QO.ibin (by rfl) (by rfl) trivial) ?_)
    first | (refine RS.q rfl (QO.mul (by rfl) (by rfl) (by omega) (by omega)) ?_) | (refine RS.q rfl (QO.ibin (by rfl) (by rfl) trivial) ?_)
    first | (refine RS.q rfl (QO.sub (by rfl) (by rfl) (by omega) (by omega)) ?_) | (refine RS.q rfl (QO.ibin (by rfl) (by rfl) trivial) ?_)
    refine RS.q rfl (QO.assign) ?_
    refine RS.nil ?_
    refine thenC_n ?_
    refine CS.seq ?_
    refine CS.region ?_
    refine RS.q rfl (QO.move) ?_
    refine RS.q rfl (QO.assign) ?_
    refine RS.nil ?_
    refine thenC_n ?_
    refine CS.ret ?_
    refine retQ.mk (H' := []) (.inr rfl) (RVs.tmp (by rfl) RVs.nil) (List.nil_sublist _) ?_
    exact ⟨congrArg iv (by rw [← frm_T hb0p, show h * 60 + m = 60 * h + m by omega]), rfl⟩
  · have hb0p := ne_of_beq_false hb0
    refine CS.skip ?_
    refine thenC_n ?_
    refine CS.seq ?_
    refine CS.region ?_
    refine RS.q rfl (QO.move) ?_
    refine RS.q rfl (QO.assign) ?_
    refine RS.nil ?_
    refine thenC_n ?_
    refine CS.ret ?_
    refine retQ.mk (H' := []) (.inr rfl) (RVs.tmp (by rfl) RVs.nil) (List.nil_sublist _) ?_
    exact ⟨congrArg iv (frm_F hb0p), rfl⟩

end Go.Proofs.YtapcgokcfmklbaaDoor
