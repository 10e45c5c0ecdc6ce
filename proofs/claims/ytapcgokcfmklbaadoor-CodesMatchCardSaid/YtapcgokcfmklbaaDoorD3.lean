/-
  Contracts: time codes printed. Conditions: as each theorem says.
-/
import Derived.Test.YtapcgokcfmklbaaDoorD2
namespace Go.Proofs.YtapcgokcfmklbaaDoor
open Go Go.Proofs Go.RowKit

theorem ty5 : tyChk Tryd.prog 5 = some ([.int .u8 0], false, 1) := by kernel_rfl
theorem ok76 : callOK Tryd.prog 76 = true := by kernel_rfl
theorem ok92 : callOK Tryd.prog 92 = true := by kernel_rfl
theorem ok94 : callOK Tryd.prog 94 = true := by kernel_rfl
theorem ok133 : callOK Tryd.prog 133 = true := by kernel_rfl
theorem ok139 : callOK Tryd.prog 139 = true := by kernel_rfl
theorem ok160 : callOK Tryd.prog 160 = true := by kernel_rfl
theorem ok205 : callOK Tryd.prog 205 = true := by kernel_rfl

theorem u8_wrap {k : Nat} (h : k < 256) : IntKind.u8.wrap (k : Int) = (((UInt8.ofNat k).toNat : Nat) : Int) := by
  rw [u8_ofNat h, IntKind.wrap_u8]
  omega
theorem tdivN (a b : Nat) : ((a : Int)).tdiv (b : Int) = ((a / b : Nat) : Int) := by simp [Int.tdiv]
theorem tmodN (a b : Nat) : ((a : Int)).tmod (b : Int) = ((a % b : Nat) : Int) := by simp [Int.tmod]
def smallL : List UInt8 := (48 :: 48 :: 48 :: 49 :: 48 :: 50 :: 48 :: 51 :: 48 :: 52 :: 48 :: 53 :: 48 :: 54 :: 48 :: 55 :: 48 :: 56 :: 48 :: 57 :: 49 :: 48 :: 49 :: 49 :: 49 :: 50 :: 49 :: 51 :: 49 :: 52 :: 49 :: 53 :: 49 :: 54 :: 49 :: 55 :: 49 :: 56 :: 49 :: 57 :: 50 :: 48 :: 50 :: 49 :: 50 :: 50 :: 50 :: 51 :: 50 :: 52 :: 50 :: 53 :: 50 :: 54 :: 50 :: 55 :: 50 :: 56 :: 50 :: 57 :: 51 :: 48 :: 51 :: 49 :: 51 :: 50 :: 51 :: 51 :: 51 :: 52 :: 51 :: 53 :: 51 :: 54 :: 51 :: 55 :: 51 :: 56 :: 51 :: 57 :: 52 :: 48 :: 52 :: 49 :: 52 :: 50 :: 52 :: 51 :: 52 :: 52 :: 52 :: 53 :: 52 :: 54 :: 52 :: 55 :: 52 :: 56 :: 52 :: 57 :: 53 :: 48 :: 53 :: 49 :: 53 :: 50 :: 53 :: 51 :: 53 :: 52 :: 53 :: 53 :: 53 :: 54 :: 53 :: 55 :: 53 :: 56 :: 53 :: 57 :: 54 :: 48 :: 54 :: 49 :: 54 :: 50 :: 54 :: 51 :: 54 :: 52 :: 54 :: 53 :: 54 :: 54 :: 54 :: 55 :: 54 :: 56 :: 54 :: 57 :: 55 :: 48 :: 55 :: 49 :: 55 :: 50 :: 55 :: 51 :: 55 :: 52 :: 55 :: 53 :: 55 :: 54 :: 55 :: 55 :: 55 :: 56 :: 55 :: 57 :: 56 :: 48 :: 56 :: 49 :: 56 :: 50 :: 56 :: 51 :: 56 :: 52 :: 56 :: 53 :: 56 :: 54 :: 56 :: 55 :: 56 :: 56 :: 56 :: 57 :: 57 :: 48 :: 57 :: 49 :: 57 :: 50 :: 57 :: 51 :: 57 :: 52 :: 57 :: 53 :: 57 :: 54 :: 57 :: 55 :: 57 :: 56 :: 57 :: 57 :: [])
def digL : List UInt8 := (48 :: 49 :: 50 :: 51 :: 52 :: 53 :: 54 :: 55 :: 56 :: 57 :: 97 :: 98 :: 99 :: 100 :: 101 :: 102 :: 103 :: 104 :: 105 :: 106 :: 107 :: 108 :: 109 :: 110 :: 111 :: 112 :: 113 :: 114 :: 115 :: 116 :: 117 :: 118 :: 119 :: 120 :: 121 :: 122 :: [])
/-- a small number in digits -/
def itoa (n : Nat) : List UInt8 := if n < 10 then [UInt8.ofNat (48 + n)] else d2 n
theorem itoa_len (n : Nat) : (itoa n).length ≤ 2 := by unfold itoa; split <;> simp [d2]
theorem small_1 : ∀ n : Nat, n < 10 → (digL.take (n + 1)).drop n = itoa n := by decide +kernel
theorem small_2 : ∀ n : Nat, n < 100 → ¬ n < 10 → (smallL.take (n * 2 + 2)).drop (n * 2) = itoa n := by decide +kernel
theorem pad_1 : ∀ n : Nat, n < 10 → [48] ++ itoa n = d2 n := by decide +kernel
theorem pad_2 : ∀ n : Nat, n < 100 → ¬ n < 10 → [] ++ itoa n = d2 n := by decide +kernel
theorem itoa_1 {n : Nat} (h : n < 10) : ((itoa n).length : Int) = 1 := by unfold itoa; rw [if_pos h]; rfl
theorem itoa_2 {n : Nat} (h : ¬ n < 10) : ((itoa n).length : Int) = 2 := by unfold itoa; rw [if_neg h]; rfl

set_option maxRecDepth 100000 in
theorem two1 (n : Nat) (W : World) (h1 : n < 100) : Fn_ Tryd.prog 92 #[iv (n : Int)] W (fun v H => v = sv (d2 n) ∧ H = []) := by
  refine Fn_.intro Tryd.func92 rfl rfl (by rfl) ?_
  refine CS.seq ?_
  refine CS.region ?_
  refine RS.q rfl (QO.assign) ?_
  refine RS.nil ?_
  refine thenC_n ?_
  refine CS.seq ?_
  refine CS.region ?_
  refine RS.q rfl (QO.move) ?_
  refine RS.qv rfl (QO.quo (by rfl) (by rfl) (by omega) (by omega) (by omega)) (congrArg iv (tdivN n 10)) ?_
  first | (refine RS.qv rfl (QO.add (by rfl) (by rfl) (by omega) (by omega)) (congrArg iv (show (48 : Int) + ((n / 10 : Nat) : Int) = ((48 + n / 10 : Nat) : Int) by omega)) ?_) | (refine RS.qv rfl (QO.ibin (by rfl) (by rfl) trivial) (congrArg iv (show (48 : Int) + ((n / 10 : Nat) : Int) = ((48 + n / 10 : Nat) : Int) by omega)) ?_)
  refine RS.qv rfl (QO.conv_int Tryd.underlying3 Tryd.underlying5 (by rfl)) (congrArg (Value.int .u8) (u8_wrap (show 48 + n / 10 < 256 by omega))) ?_
  refine RS.q rfl (QO.move) ?_
  refine RS.qv rfl (QO.rem (by rfl) (by rfl) (by omega)) (congrArg iv (tmodN n 10)) ?_
  first | (refine RS.qv rfl (QO.add (by rfl) (by rfl) (by omega) (by omega)) (congrArg iv (show (48 : Int) + ((n % 10 : Nat) : Int) = ((48 + n % 10 : Nat) : Int) by omega)) ?_) | (refine RS.qv rfl (QO.ibin (by rfl) (by rfl) trivial) (congrArg iv (show (48 : Int) + ((n % 10 : Nat) : Int) = ((48 + n % 10 : Nat) : Int) by omega)) ?_)
  refine RS.qv rfl (QO.conv_int Tryd.underlying3 Tryd.underlying5 (by rfl)) (congrArg (Value.int .u8) (u8_wrap (show 48 + n % 10 < 256 by omega))) ?_
  refine RS.buildSlice rfl Tryd.underlying107 ty5 (by decide) (by decide) (by rfl) (by rfl) ?_
  intro g11
  refine RS.q rfl (QO.convBS (l := d2 n) (junk := []) Tryd.underlying107 Tryd.underlying5 Tryd.underlying9 (by rfl) (by repeat (first | exact List.Mem.head _ | refine List.Mem.tail _ ?_))) ?_
  refine RS.q rfl (QO.assign) ?_
  refine RS.nil ?_
  refine thenC_n ?_
  refine CS.ret ?_
  refine retQ.mk (H' := []) (.inr rfl) (RVs.tmp (by rfl) RVs.nil) (List.nil_sublist _) ?_
  exact ⟨rfl, rfl⟩

theorem twoI (n : Int) (W : World) (h0 : 0 ≤ n) (h1 : n < 100) : Fn_ Tryd.prog 92 #[iv n] W (fun v H => v = sv (d2 n.toNat) ∧ H = []) := by
  obtain ⟨k, rfl⟩ : ∃ k : Nat, n = k := ⟨n.toNat, by omega⟩
  exact two1 k W (by omega)
def prtI (r h m s f : Int) : List UInt8 := if codE r h m s f = 0 then prt r h.toNat m.toNat s.toNat f.toNat else []
def prtV (r h m s f : Int) : Value := .tuple #[sv (prtI r h m s f), iv (codE r h m s f)]
theorem prt_e {r h m s f : Int} (e : codE r h m s f ≠ 0) : Value.tuple #[sv [], iv (codE r h m s f)] = prtV r h m s f := by unfold prtV prtI; rw [if_neg e]
theorem prt_k {r h m s f : Int} (e : codE r h m s f = 0) : Value.tuple #[sv (d2 h.toNat ++ [58] ++ d2 m.toNat ++ [58] ++ d2 s.toNat ++ [sepB r] ++ d2 f.toNat), iv 0] = prtV r h m s f := by unfold prtV prtI; rw [if_pos e, e]; rfl
theorem sep_T {r : Int} (e : r = 29) : sv [59] = sv [sepB r] := by subst e; rfl
theorem sep_F {r : Int} (e : ¬ r = 29) : sv [58] = sv [sepB r] := by unfold sepB; rw [if_neg e]

set_option maxHeartbeats 4000000 in
set_option maxRecDepth 100000 in
theorem printCode (rate h m s f : Int) (W : World) : Fn_ Tryd.prog 31 #[iv rate, .agg #[iv h, iv m, iv s, iv f]] W (fun v H => v = prtV rate h m s f ∧ H = []) := by
  refine Fn_.intro Tryd.func31 rfl rfl (by rfl) ?_
  refine CS.seq ?_
  refine CS.region ?_
  refine RS.box rfl (by rfl) (by rfl) ?_
  intro g3
  refine RS.q rfl (QO.assign) ?_
  refine RS.q rfl (QO.assign) ?_
  refine RS.nil ?_
  refine thenC_n ?_
  refine CS.seq ?_
  refine CS.seq ?_
  refine CS.region ?_
  refine RS.q rfl (QO.move) ?_
  first | (refine RS.q rfl (QO.loadB ty59 (by rfl) (by repeat (first | exact List.Mem.head _ | refine List.Mem.tail _ ?_)) (by rfl)) ?_) | (refine RS.q rfl (QO.loadA ty59 (by rfl) (by repeat (first | exact List.Mem.head _ | refine List.Mem.tail _ ?_)) (by rfl) (by rfl)) ?_) | (refine RS.q rfl (QO.loadOA ty59 (by rfl) (by assumption) (by rfl)) ?_)
  refine RS.call rfl (by rfl) ok90 (by rfl) (fun w ho => checkCode _ _ _ _ _ _) ?_
  rintro _ _ ⟨rfl, rfl⟩
  refine RS.q rfl (QO.assign) ?_
  refine RS.nil ?_
  refine thenC_n ?_
  refine CS.seq ?_
  refine CS.region ?_
  refine RS.q rfl (QO.move) ?_
  refine RS.q rfl (QO.neq (by rfl) (by rfl)) ?_
  refine RS.nil ?_
  refine thenC_n ?_
  refine CS.cond (by rfl) (fun hb0 => ?_) (fun hb0 => ?_)
  · have hb0p := bne_iff_ne.1 hb0
    refine CS.seq ?_
    refine CS.region ?_
    refine RS.q rfl (QO.move) ?_
    refine RS.q rfl (QO.assign) ?_
    refine RS.q rfl (QO.assign) ?_
    refine RS.nil ?_
    refine thenC_n ?_
    refine CS.ret ?_
    refine thenC_r ?_
    refine retQ.mk (H' := []) (.inr rfl) (RVs.tmp (by rfl) (RVs.tmp (by rfl) RVs.nil)) (List.nil_sublist _) ?_
    exact ⟨prt_e hb0p, rfl⟩
  · have hb0p := of_bne_false hb0
    refine CS.skip ?_
    refine thenC_n ?_
    refine CS.seq ?_
    refine CS.region ?_
    refine RS.q rfl (QO.assign) ?_
    refine RS.nil ?_
    refine thenC_n ?_
    refine CS.seq ?_
    refine CS.region ?_
    refine RS.q rfl (QO.assign) ?_
    refine RS.nil ?_
    refine thenC_n ?_
    refine CS.cut (X := Unit) [8, 15, 16] (fun z => [(8, sv [sepB rate])]) (fun z => [⟨g3, 59, [iv h, iv m, iv s, iv f]⟩]) (fun z => True) ?_ ?_
    · refine CS.seq ?_
      refine CS.region ?_
      refine RS.q rfl (QO.move) ?_
      refine RS.q rfl (QO.eql (by rfl) (by rfl)) ?_
      refine RS.nil ?_
      refine thenC_n ?_
      refine CS.cond (by rfl) (fun hb1 => ?_) (fun hb1 => ?_)
      · have hb1p := eq_of_beq hb1
        refine CS.region ?_
        refine RS.q rfl (QO.assign) ?_
        refine RS.nil ?_
        refine cutQ_n (by intro t ht; repeat (first | with_reducible exact rfl | exact frame_puts ht (frame_mix ht) _ rfl | (refine frame_put rfl ht ?_) | (refine frame_puts ht ?_ _ rfl) | exact frame_mix ht | (refine frame_mix2 rfl ht ?_) | exact rfl)) ?_
        exact ⟨(), trivial, kn_cons (sep_T hb1p) kn_nil, (by repeat (first | exact List.Sublist.refl _ | exact List.nil_sublist _ | refine List.Sublist.cons_cons _ ?_ | refine List.Sublist.cons _ ?_ | exact Sbp.refl | exact Sbp.nil | refine Sbp.cons (by repeat (first | exact Rem.head | apply Rem.tail)) ?_ | exact Sbp.app | refine Sbp.skip ?_))⟩
      · have hb1p := ne_of_beq_false hb1
        refine CS.skip ?_
        refine cutQ_n (by intro t ht; repeat (first | with_reducible exact rfl | exact frame_puts ht (frame_mix ht) _ rfl | (refine frame_put rfl ht ?_) | (refine frame_puts ht ?_ _ rfl) | exact frame_mix ht | (refine frame_mix2 rfl ht ?_) | exact rfl)) ?_
        exact ⟨(), trivial, kn_cons (sep_F hb1p) kn_nil, (by repeat (first | exact List.Sublist.refl _ | exact List.nil_sublist _ | refine List.Sublist.cons_cons _ ?_ | refine List.Sublist.cons _ ?_ | exact Sbp.refl | exact Sbp.nil | refine Sbp.cons (by repeat (first | exact Rem.head | apply Rem.tail)) ?_ | exact Sbp.app | refine Sbp.skip ?_))⟩
    · intro z gj hz
      have hok := of_bne_false hb0
      have hc := codE_ok hok
      have hsb := sec_bd rate
      refine CS.seq ?_
      refine CS.draw 25 rfl (by kernel_rfl) (by kernel_rfl) ?_
      refine RT.take (i := 0) rfl (by kernel_rfl) rfl (QO.move) ?_
      refine RT.take (i := 1) rfl (by kernel_rfl) rfl (QO.fieldAddr fo59_0 (by rfl)) ?_
      first | (refine RT.take (i := 2) rfl (by kernel_rfl) rfl (QO.load ty3 (by rfl) (by repeat (first | exact List.Mem.head _ | refine List.Mem.tail _ ?_)) (by rfl)) ?_) | (refine RT.take (i := 2) rfl (by kernel_rfl) rfl (QO.loadO ty3 (by rfl) (by assumption)) ?_) | (refine RT.take (i := 2) rfl (by kernel_rfl) rfl (QO.load ty3 (by rfl) (by repeat (first | exact List.Mem.head _ | refine List.Mem.tail _ ?_)) (by assumption)) ?_)
      refine RT.take (i := 5) rfl (by kernel_rfl) rfl (QO.move) ?_
      refine RT.take (i := 6) rfl (by kernel_rfl) rfl (QO.fieldAddr fo59_1 (by rfl)) ?_
      first | (refine RT.take (i := 7) rfl (by kernel_rfl) rfl (QO.load ty3 (by rfl) (by repeat (first | exact List.Mem.head _ | refine List.Mem.tail _ ?_)) (by rfl)) ?_) | (refine RT.take (i := 7) rfl (by kernel_rfl) rfl (QO.loadO ty3 (by rfl) (by assumption)) ?_) | (refine RT.take (i := 7) rfl (by kernel_rfl) rfl (QO.load ty3 (by rfl) (by repeat (first | exact List.Mem.head _ | refine List.Mem.tail _ ?_)) (by assumption)) ?_)
      refine RT.take (i := 11) rfl (by kernel_rfl) rfl (QO.move) ?_
      refine RT.take (i := 12) rfl (by kernel_rfl) rfl (QO.fieldAddr fo59_2 (by rfl)) ?_
      first | (refine RT.take (i := 13) rfl (by kernel_rfl) rfl (QO.load ty3 (by rfl) (by repeat (first | exact List.Mem.head _ | refine List.Mem.tail _ ?_)) (by rfl)) ?_) | (refine RT.take (i := 13) rfl (by kernel_rfl) rfl (QO.loadO ty3 (by rfl) (by assumption)) ?_) | (refine RT.take (i := 13) rfl (by kernel_rfl) rfl (QO.load ty3 (by rfl) (by repeat (first | exact List.Mem.head _ | refine List.Mem.tail _ ?_)) (by assumption)) ?_)
      refine RT.take (i := 16) rfl (by kernel_rfl) rfl (QO.move) ?_
      refine RT.take (i := 18) rfl (by kernel_rfl) rfl (QO.move) ?_
      refine RT.take (i := 19) rfl (by kernel_rfl) rfl (QO.fieldAddr fo59_3 (by rfl)) ?_
      first | (refine RT.take (i := 20) rfl (by kernel_rfl) rfl (QO.load ty3 (by rfl) (by repeat (first | exact List.Mem.head _ | refine List.Mem.tail _ ?_)) (by rfl)) ?_) | (refine RT.take (i := 20) rfl (by kernel_rfl) rfl (QO.loadO ty3 (by rfl) (by assumption)) ?_) | (refine RT.take (i := 20) rfl (by kernel_rfl) rfl (QO.load ty3 (by rfl) (by repeat (first | exact List.Mem.head _ | refine List.Mem.tail _ ?_)) (by assumption)) ?_)
      refine RT.one (i := 3) (by kernel_rfl) rfl rfl ?_
      refine RS.call rfl (by rfl) ok92 (by rfl) (fun w ho => twoI h _ (by omega) (by omega)) ?_
      rintro _ _ ⟨rfl, rfl⟩
      refine RS.nil ⟨(by repeat (first | exact List.Sublist.refl _ | exact List.nil_sublist _ | refine List.Sublist.cons_cons _ ?_ | refine List.Sublist.cons _ ?_ | exact Sbp.refl | exact Sbp.nil | refine Sbp.cons (by repeat (first | exact Rem.head | apply Rem.tail)) ?_ | exact Sbp.app | refine Sbp.skip ?_)), ?_⟩
      refine RT.take (i := 4) rfl (by kernel_rfl) rfl (QO.stradd (by rfl) (by rfl) (Nat.le_of_ble_eq_true rfl)) ?_
      refine RT.one (i := 8) (by kernel_rfl) rfl rfl ?_
      refine RS.call rfl (by rfl) ok92 (by rfl) (fun w ho => twoI m _ (by omega) (by omega)) ?_
      rintro _ _ ⟨rfl, rfl⟩
      refine RS.nil ⟨(by repeat (first | exact List.Sublist.refl _ | exact List.nil_sublist _ | refine List.Sublist.cons_cons _ ?_ | refine List.Sublist.cons _ ?_ | exact Sbp.refl | exact Sbp.nil | refine Sbp.cons (by repeat (first | exact Rem.head | apply Rem.tail)) ?_ | exact Sbp.app | refine Sbp.skip ?_)), ?_⟩
      refine RT.take (i := 9) rfl (by kernel_rfl) rfl (QO.stradd (by rfl) (by rfl) (Nat.le_of_ble_eq_true rfl)) ?_
      refine RT.take (i := 10) rfl (by kernel_rfl) rfl (QO.stradd (by rfl) (by rfl) (Nat.le_of_ble_eq_true rfl)) ?_
      refine RT.one (i := 14) (by kernel_rfl) rfl rfl ?_
      refine RS.call rfl (by rfl) ok92 (by rfl) (fun w ho => twoI s _ (by omega) (by omega)) ?_
      rintro _ _ ⟨rfl, rfl⟩
      refine RS.nil ⟨(by repeat (first | exact List.Sublist.refl _ | exact List.nil_sublist _ | refine List.Sublist.cons_cons _ ?_ | refine List.Sublist.cons _ ?_ | exact Sbp.refl | exact Sbp.nil | refine Sbp.cons (by repeat (first | exact Rem.head | apply Rem.tail)) ?_ | exact Sbp.app | refine Sbp.skip ?_)), ?_⟩
      refine RT.take (i := 15) rfl (by kernel_rfl) rfl (QO.stradd (by rfl) (by rfl) (Nat.le_of_ble_eq_true rfl)) ?_
      refine RT.take (i := 17) rfl (by kernel_rfl) rfl (QO.stradd (by rfl) (by rfl) (Nat.le_of_ble_eq_true rfl)) ?_
      refine RT.one (i := 21) (by kernel_rfl) rfl rfl ?_
      refine RS.call rfl (by rfl) ok92 (by rfl) (fun w ho => twoI f _ (by omega) (by omega)) ?_
      rintro _ _ ⟨rfl, rfl⟩
      refine RS.nil ⟨(by repeat (first | exact List.Sublist.refl _ | exact List.nil_sublist _ | refine List.Sublist.cons_cons _ ?_ | refine List.Sublist.cons _ ?_ | exact Sbp.refl | exact Sbp.nil | refine Sbp.cons (by repeat (first | exact Rem.head | apply Rem.tail)) ?_ | exact Sbp.app | refine Sbp.skip ?_)), ?_⟩
      refine RT.take (i := 22) rfl (by kernel_rfl) rfl (QO.stradd (by rfl) (by rfl) (Nat.le_of_ble_eq_true rfl)) ?_
      refine RT.take (i := 23) rfl (by kernel_rfl) rfl (QO.assign) ?_
      refine RT.take (i := 24) rfl (by kernel_rfl) rfl (QO.assign) ?_
      refine RT.done (by kernel_rfl) ?_
      refine thenC_n ?_
      refine CS.ret ?_
      refine retQ.mk (H' := []) (.inr rfl) (RVs.tmp (by rfl) (RVs.tmp (by rfl) RVs.nil)) (List.nil_sublist _) ?_
      exact ⟨prt_k hok, rfl⟩

set_option maxHeartbeats 4000000 in
set_option maxRecDepth 100000 in
theorem small (n : Nat) (W : World) (h : n < 100) : Fn_ Tryd.prog 205 #[iv (n : Int)] W (fun v H => v = sv (itoa n) ∧ H = []) := by
  refine Fn_.intro Tryd.func205 rfl rfl (by rfl) ?_
  refine CS.seq ?_
  refine CS.region ?_
  refine RS.q rfl (QO.assign) ?_
  refine RS.nil ?_
  refine thenC_n ?_
  refine CS.seq ?_
  refine CS.seq ?_
  refine CS.region ?_
  refine RS.q rfl (QO.move) ?_
  refine RS.q rfl (QO.lss (by rfl) (by rfl)) ?_
  refine RS.nil ?_
  refine thenC_n ?_
  refine CS.cond (by rfl) (fun hb0 => ?_) (fun hb0 => ?_)
  · have hb0p := of_decide_eq_true hb0
    refine CS.seq ?_
    refine CS.region ?_
    refine RS.q rfl (QO.move) ?_
    refine RS.q rfl (QO.move) ?_
    first | (refine RS.qv rfl (QO.add (by rfl) (by rfl) (by omega) (by omega)) (congrArg iv (show (n : Int) + 1 = ((n + 1 : Nat) : Int) by omega)) ?_) | (refine RS.qv rfl (QO.ibin (by rfl) (by rfl) trivial) (congrArg iv (show (n : Int) + 1 = ((n + 1 : Nat) : Int) by omega)) ?_)
    refine RS.qv rfl (QO.cutStrLoHi (l := digL) (i := (n : Int)) (h := ((n + 1 : Nat) : Int)) Tryd.underlying9 (by rfl) (by rfl) (by rfl) (by omega) (by omega) (by have : digL.length = 36 := rfl; omega)) ((show sv ((digL.take (n + 1)).drop n) = sv (itoa n) from congrArg sv (small_1 n (by omega)))) ?_
    refine RS.q rfl (QO.assign) ?_
    refine RS.nil ?_
    refine thenC_n ?_
    refine CS.ret ?_
    refine thenC_r ?_
    refine retQ.mk (H' := []) (.inr rfl) (RVs.tmp (by rfl) RVs.nil) (List.nil_sublist _) ?_
    exact ⟨rfl, rfl⟩
  · have hb0p := of_decide_eq_false hb0
    refine CS.skip ?_
    refine thenC_n ?_
    refine CS.seq ?_
    refine CS.region ?_
    refine RS.q rfl (QO.move) ?_
    first | (refine RS.qv rfl (QO.mul (by rfl) (by rfl) (by omega) (by omega)) (congrArg iv (show (n : Int) * 2 = ((n * 2 : Nat) : Int) by omega)) ?_) | (refine RS.qv rfl (QO.ibin (by rfl) (by rfl) trivial) (congrArg iv (show (n : Int) * 2 = ((n * 2 : Nat) : Int) by omega)) ?_)
    refine RS.q rfl (QO.move) ?_
    first | (refine RS.qv rfl (QO.mul (by rfl) (by rfl) (by omega) (by omega)) (congrArg iv (show (n : Int) * 2 = ((n * 2 : Nat) : Int) by omega)) ?_) | (refine RS.qv rfl (QO.ibin (by rfl) (by rfl) trivial) (congrArg iv (show (n : Int) * 2 = ((n * 2 : Nat) : Int) by omega)) ?_)
    first | (refine RS.qv rfl (QO.add (by rfl) (by rfl) (by omega) (by omega)) (congrArg iv (show ((n * 2 : Nat) : Int) + 2 = ((n * 2 + 2 : Nat) : Int) by omega)) ?_) | (refine RS.qv rfl (QO.ibin (by rfl) (by rfl) trivial) (congrArg iv (show ((n * 2 : Nat) : Int) + 2 = ((n * 2 + 2 : Nat) : Int) by omega)) ?_)
    refine RS.qv rfl (QO.cutStrLoHi (l := smallL) (i := ((n * 2 : Nat) : Int)) (h := ((n * 2 + 2 : Nat) : Int)) Tryd.underlying9 (by rfl) (by rfl) (by rfl) (by omega) (by omega) (by have : smallL.length = 200 := rfl; omega)) ((show sv ((smallL.take (n * 2 + 2)).drop (n * 2)) = sv (itoa n) from congrArg sv (small_2 n h (by omega)))) ?_
    refine RS.q rfl (QO.assign) ?_
    refine RS.nil ?_
    refine thenC_n ?_
    refine CS.ret ?_
    refine retQ.mk (H' := []) (.inr rfl) (RVs.tmp (by rfl) RVs.nil) (List.nil_sublist _) ?_
    exact ⟨rfl, rfl⟩

set_option maxRecDepth 100000 in
theorem formatInt (n : Nat) (W : World) (h : n < 100) : Fn_ Tryd.prog 160 #[.int .i64 (n : Int), iv 10] W (fun v H => v = sv (itoa n) ∧ H = []) := by
  refine Fn_.intro Tryd.func160 rfl rfl (by rfl) ?_
  refine CS.seq ?_
  refine CS.region ?_
  refine RS.q rfl (QO.assign) ?_
  refine RS.nil ?_
  refine thenC_n ?_
  refine CS.seq ?_
  refine CS.seq ?_
  refine CS.region ?_
  refine RS.q rfl (QO.move) ?_
  refine RS.q rfl (QO.eql (by rfl) (by rfl)) ?_
  refine RS.nil ?_
  refine thenC_n ?_
  refine CS.condT (by rfl) rfl ?_
  refine CS.seq ?_
  refine CS.seq ?_
  refine CS.region ?_
  refine RS.q rfl (QO.move) ?_
  refine RS.q rfl (QO.leq (by rfl) (by rfl)) ?_
  refine RS.q rfl (QO.move) ?_
  refine RS.on (dj := 14) rfl (congrArg Value.bool (decide_eq_true (by omega))) ?_
  refine RS.q rfl (QO.move) ?_
  refine RS.on (dj := 14) rfl (congrArg Value.bool (decide_eq_true (by omega))) ?_
  refine RS.q rfl (QO.lss (by rfl) (by rfl)) ?_
  refine RS.q rfl (QO.pickT (by rfl) (decide_eq_true (by omega)) (by rfl)) ?_
  refine RS.nil ?_
  refine thenC_n ?_
  refine CS.condT (by rfl) (decide_eq_true (by omega)) ?_
  refine CS.seq ?_
  refine CS.region ?_
  refine RS.q rfl (QO.move) ?_
  refine RS.call rfl (by rfl) ok205 (by rfl) (fun w ho => small n _ h) ?_
  rintro _ _ ⟨rfl, rfl⟩
  refine RS.q rfl (QO.assign) ?_
  refine RS.nil ?_
  refine thenC_n ?_
  refine CS.ret ?_
  refine thenC_r ?_
  refine thenC_r ?_
  refine retQ.mk (H' := []) (.inr rfl) (RVs.tmp (by rfl) RVs.nil) (List.nil_sublist _) ?_
  exact ⟨rfl, rfl⟩

set_option maxRecDepth 100000 in
theorem itoaI (n : Nat) (W : World) (h : n < 100) : Fn_ Tryd.prog 133 #[iv (n : Int)] W (fun v H => v = sv (itoa n) ∧ H = []) := by
  refine Fn_.intro Tryd.func133 rfl rfl (by rfl) ?_
  refine CS.seq ?_
  refine CS.region ?_
  refine RS.q rfl (QO.assign) ?_
  refine RS.nil ?_
  refine thenC_n ?_
  refine CS.seq ?_
  refine CS.region ?_
  refine RS.q rfl (QO.move) ?_
  refine RS.call rfl (by rfl) ok160 (by rfl) (fun w ho => formatInt n _ h) ?_
  rintro _ _ ⟨rfl, rfl⟩
  refine RS.q rfl (QO.assign) ?_
  refine RS.nil ?_
  refine thenC_n ?_
  refine CS.ret ?_
  refine retQ.mk (H' := []) (.inr rfl) (RVs.tmp (by rfl) RVs.nil) (List.nil_sublist _) ?_
  exact ⟨rfl, rfl⟩

set_option maxRecDepth 100000 in
theorem itoa_ (n : Nat) (W : World) (h : n < 100) : Fn_ Tryd.prog 76 #[iv (n : Int)] W (fun v H => v = sv (itoa n) ∧ H = []) := by
  refine Fn_.intro Tryd.func76 rfl rfl (by rfl) ?_
  refine CS.seq ?_
  refine CS.region ?_
  refine RS.q rfl (QO.assign) ?_
  refine RS.nil ?_
  refine thenC_n ?_
  refine CS.seq ?_
  refine CS.region ?_
  refine RS.q rfl (QO.move) ?_
  refine RS.call rfl (by rfl) ok133 (by rfl) (fun w ho => itoaI n _ h) ?_
  rintro _ _ ⟨rfl, rfl⟩
  refine RS.q rfl (QO.assign) ?_
  refine RS.nil ?_
  refine thenC_n ?_
  refine CS.ret ?_
  refine retQ.mk (H' := []) (.inr rfl) (RVs.tmp (by rfl) RVs.nil) (List.nil_sublist _) ?_
  exact ⟨rfl, rfl⟩

set_option maxRecDepth 100000 in
theorem rep0 (s : List UInt8) (W : World) : Fn_ Tryd.prog 139 #[sv s, iv 0] W (fun v H => v = sv [] ∧ H = []) := by
  refine Fn_.intro Tryd.func139 rfl rfl (by rfl) ?_
  refine CS.seq ?_
  refine CS.region ?_
  refine RS.q rfl (QO.assign) ?_
  refine RS.nil ?_
  refine thenC_n ?_
  refine CS.seq ?_
  refine CS.seq ?_
  refine CS.region ?_
  refine RS.q rfl (QO.move) ?_
  refine RS.nil ?_
  refine thenC_n ?_
  refine CS.block ?_
  refine CS.seq ?_
  refine CS.region ?_
  refine RS.q rfl (QO.eql (by rfl) (by rfl)) ?_
  refine RS.q rfl (QO.assign) ?_
  refine RS.nil ?_
  refine thenC_n ?_
  refine CS.condT (by rfl) rfl ?_
  refine CS.seq ?_
  refine CS.region ?_
  refine RS.q rfl (QO.assign) ?_
  refine RS.nil ?_
  refine thenC_n ?_
  refine CS.ret ?_
  refine blockC_r ?_
  refine thenC_r ?_
  refine retQ.mk (H' := []) (.inr rfl) (RVs.tmp (by rfl) RVs.nil) (List.nil_sublist _) ?_
  exact ⟨rfl, rfl⟩

set_option maxRecDepth 100000 in
theorem rep1 (s : List UInt8) (W : World) : Fn_ Tryd.prog 139 #[sv s, iv 1] W (fun v H => v = sv s ∧ H = []) := by
  refine Fn_.intro Tryd.func139 rfl rfl (by rfl) ?_
  refine CS.seq ?_
  refine CS.region ?_
  refine RS.q rfl (QO.assign) ?_
  refine RS.nil ?_
  refine thenC_n ?_
  refine CS.seq ?_
  refine CS.seq ?_
  refine CS.region ?_
  refine RS.q rfl (QO.move) ?_
  refine RS.nil ?_
  refine thenC_n ?_
  refine CS.block ?_
  refine CS.seq ?_
  refine CS.region ?_
  refine RS.q rfl (QO.eql (by rfl) (by rfl)) ?_
  refine RS.q rfl (QO.assign) ?_
  refine RS.nil ?_
  refine thenC_n ?_
  refine CS.condF (by rfl) rfl ?_
  refine CS.seq ?_
  refine CS.region ?_
  refine RS.q rfl (QO.eql (by rfl) (by rfl)) ?_
  refine RS.q rfl (QO.assign) ?_
  refine RS.nil ?_
  refine thenC_n ?_
  refine CS.condT (by rfl) rfl ?_
  refine CS.seq ?_
  refine CS.region ?_
  refine RS.q rfl (QO.move) ?_
  refine RS.q rfl (QO.assign) ?_
  refine RS.nil ?_
  refine thenC_n ?_
  refine CS.ret ?_
  refine blockC_r ?_
  refine thenC_r ?_
  refine retQ.mk (H' := []) (.inr rfl) (RVs.tmp (by rfl) RVs.nil) (List.nil_sublist _) ?_
  exact ⟨rfl, rfl⟩

set_option maxRecDepth 100000 in
theorem padded (n : Nat) (W : World) (h : n < 100) : Fn_ Tryd.prog 94 #[iv (n : Int), iv 2] W (fun v H => v = sv (d2 n) ∧ H = []) := by
  refine Fn_.intro Tryd.func94 rfl rfl (by rfl) ?_
  refine CS.seq ?_
  refine CS.region ?_
  refine RS.q rfl (QO.assign) ?_
  refine RS.nil ?_
  refine thenC_n ?_
  refine CS.seq ?_
  refine CS.region ?_
  refine RS.q rfl (QO.move) ?_
  refine RS.call rfl (by rfl) ok76 (by rfl) (fun w ho => itoa_ n _ h) ?_
  rintro _ _ ⟨rfl, rfl⟩
  refine RS.q rfl (QO.assign) ?_
  refine RS.nil ?_
  refine thenC_n ?_
  refine CS.seq ?_
  by_cases hsp2 : n < 10
  · refine CS.region ?_
    refine RS.q rfl (QO.move) ?_
    refine RS.q rfl (QO.move) ?_
    refine RS.qv rfl (QO.lenStr Tryd.underlying9 (by rfl)) (congrArg iv (itoa_1 hsp2)) ?_
    first | (refine RS.q rfl (QO.sub (by rfl) (by rfl) (by omega) (by omega)) ?_) | (refine RS.q rfl (QO.ibin (by rfl) (by rfl) trivial) ?_)
    refine RS.qv rfl (QO.max2 (by rfl) (by rfl)) (congrArg iv (show max (0 : Int) (2 - 1) = 1 by omega)) ?_
    refine RS.call rfl (by rfl) ok139 (by rfl) (fun w ho => rep1 _ _) ?_
    rintro _ _ ⟨rfl, rfl⟩
    refine RS.q rfl (QO.move) ?_
    refine RS.qv rfl (QO.stradd (by rfl) (by rfl) (by have := itoa_len n; simp only [List.length_cons, List.length_nil]; omega)) (congrArg sv (pad_1 n hsp2)) ?_
    refine RS.q rfl (QO.assign) ?_
    refine RS.nil ?_
    refine thenC_n ?_
    refine CS.ret ?_
    refine retQ.mk (H' := []) (.inr rfl) (RVs.tmp (by rfl) RVs.nil) (List.nil_sublist _) ?_
    exact ⟨rfl, rfl⟩
  · refine CS.region ?_
    refine RS.q rfl (QO.move) ?_
    refine RS.q rfl (QO.move) ?_
    refine RS.qv rfl (QO.lenStr Tryd.underlying9 (by rfl)) (congrArg iv (itoa_2 hsp2)) ?_
    first | (refine RS.q rfl (QO.sub (by rfl) (by rfl) (by omega) (by omega)) ?_) | (refine RS.q rfl (QO.ibin (by rfl) (by rfl) trivial) ?_)
    refine RS.qv rfl (QO.max2 (by rfl) (by rfl)) (congrArg iv (show max (0 : Int) (2 - 2) = 0 by omega)) ?_
    refine RS.call rfl (by rfl) ok139 (by rfl) (fun w ho => rep0 _ _) ?_
    rintro _ _ ⟨rfl, rfl⟩
    refine RS.q rfl (QO.move) ?_
    refine RS.qv rfl (QO.stradd (by rfl) (by rfl) (by have := itoa_len n; simp only [List.length_cons, List.length_nil]; omega)) (congrArg sv (pad_2 n h hsp2)) ?_
    refine RS.q rfl (QO.assign) ?_
    refine RS.nil ?_
    refine thenC_n ?_
    refine CS.ret ?_
    refine retQ.mk (H' := []) (.inr rfl) (RVs.tmp (by rfl) RVs.nil) (List.nil_sublist _) ?_
    exact ⟨rfl, rfl⟩

set_option maxHeartbeats 4000000 in
set_option maxRecDepth 100000 in
theorem rprintCode (rate : Int) (h m s f : Nat) (W : World) (h1 : h < 100) (h2 : m < 100) (h3 : s < 100) (h4 : f < 100) : Fn_ Tryd.prog 34 #[iv rate, .agg #[iv (h : Int), iv (m : Int), iv (s : Int), iv (f : Int)]] W (fun v H => v = sv (prt rate h m s f) ∧ H = []) := by
  refine Fn_.intro Tryd.func34 rfl rfl (by rfl) ?_
  refine CS.seq ?_
  refine CS.region ?_
  refine RS.box rfl (by rfl) (by rfl) ?_
  intro g3
  refine RS.q rfl (QO.assign) ?_
  refine RS.nil ?_
  refine thenC_n ?_
  refine CS.seq ?_
  refine CS.region ?_
  refine RS.q rfl (QO.assign) ?_
  refine RS.nil ?_
  refine thenC_n ?_
  refine CS.cut (X := Unit) [5, 6, 7] (fun z => [(5, sv [sepB rate])]) (fun z => [⟨g3, 59, [iv (h : Int), iv (m : Int), iv (s : Int), iv (f : Int)]⟩]) (fun z => True) ?_ ?_
  · refine CS.seq ?_
    refine CS.region ?_
    refine RS.q rfl (QO.move) ?_
    refine RS.q rfl (QO.eql (by rfl) (by rfl)) ?_
    refine RS.nil ?_
    refine thenC_n ?_
    refine CS.cond (by rfl) (fun hb0 => ?_) (fun hb0 => ?_)
    · have hb0p := eq_of_beq hb0
      refine CS.region ?_
      refine RS.q rfl (QO.assign) ?_
      refine RS.nil ?_
      refine cutQ_n (by intro t ht; repeat (first | with_reducible exact rfl | exact frame_puts ht (frame_mix ht) _ rfl | (refine frame_put rfl ht ?_) | (refine frame_puts ht ?_ _ rfl) | exact frame_mix ht | (refine frame_mix2 rfl ht ?_) | exact rfl)) ?_
      exact ⟨(), trivial, kn_cons (sep_T hb0p) kn_nil, (by repeat (first | exact List.Sublist.refl _ | exact List.nil_sublist _ | refine List.Sublist.cons_cons _ ?_ | refine List.Sublist.cons _ ?_ | exact Sbp.refl | exact Sbp.nil | refine Sbp.cons (by repeat (first | exact Rem.head | apply Rem.tail)) ?_ | exact Sbp.app | refine Sbp.skip ?_))⟩
    · have hb0p := ne_of_beq_false hb0
      refine CS.skip ?_
      refine cutQ_n (by intro t ht; repeat (first | with_reducible exact rfl | exact frame_puts ht (frame_mix ht) _ rfl | (refine frame_put rfl ht ?_) | (refine frame_puts ht ?_ _ rfl) | exact frame_mix ht | (refine frame_mix2 rfl ht ?_) | exact rfl)) ?_
      exact ⟨(), trivial, kn_cons (sep_F hb0p) kn_nil, (by repeat (first | exact List.Sublist.refl _ | exact List.nil_sublist _ | refine List.Sublist.cons_cons _ ?_ | refine List.Sublist.cons _ ?_ | exact Sbp.refl | exact Sbp.nil | refine Sbp.cons (by repeat (first | exact Rem.head | apply Rem.tail)) ?_ | exact Sbp.app | refine Sbp.skip ?_))⟩
  · intro z gj hz
    refine CS.seq ?_
    refine CS.draw 20 rfl (by kernel_rfl) (by kernel_rfl) ?_
    refine RT.take (i := 0) rfl (by kernel_rfl) rfl (QO.fieldAddr fo59_0 (by rfl)) ?_
    first | (refine RT.take (i := 1) rfl (by kernel_rfl) rfl (QO.load ty3 (by rfl) (by repeat (first | exact List.Mem.head _ | refine List.Mem.tail _ ?_)) (by rfl)) ?_) | (refine RT.take (i := 1) rfl (by kernel_rfl) rfl (QO.loadO ty3 (by rfl) (by assumption)) ?_) | (refine RT.take (i := 1) rfl (by kernel_rfl) rfl (QO.load ty3 (by rfl) (by repeat (first | exact List.Mem.head _ | refine List.Mem.tail _ ?_)) (by assumption)) ?_)
    refine RT.take (i := 4) rfl (by kernel_rfl) rfl (QO.fieldAddr fo59_1 (by rfl)) ?_
    first | (refine RT.take (i := 5) rfl (by kernel_rfl) rfl (QO.load ty3 (by rfl) (by repeat (first | exact List.Mem.head _ | refine List.Mem.tail _ ?_)) (by rfl)) ?_) | (refine RT.take (i := 5) rfl (by kernel_rfl) rfl (QO.loadO ty3 (by rfl) (by assumption)) ?_) | (refine RT.take (i := 5) rfl (by kernel_rfl) rfl (QO.load ty3 (by rfl) (by repeat (first | exact List.Mem.head _ | refine List.Mem.tail _ ?_)) (by assumption)) ?_)
    refine RT.take (i := 9) rfl (by kernel_rfl) rfl (QO.fieldAddr fo59_2 (by rfl)) ?_
    first | (refine RT.take (i := 10) rfl (by kernel_rfl) rfl (QO.load ty3 (by rfl) (by repeat (first | exact List.Mem.head _ | refine List.Mem.tail _ ?_)) (by rfl)) ?_) | (refine RT.take (i := 10) rfl (by kernel_rfl) rfl (QO.loadO ty3 (by rfl) (by assumption)) ?_) | (refine RT.take (i := 10) rfl (by kernel_rfl) rfl (QO.load ty3 (by rfl) (by repeat (first | exact List.Mem.head _ | refine List.Mem.tail _ ?_)) (by assumption)) ?_)
    refine RT.take (i := 13) rfl (by kernel_rfl) rfl (QO.move) ?_
    refine RT.take (i := 15) rfl (by kernel_rfl) rfl (QO.fieldAddr fo59_3 (by rfl)) ?_
    first | (refine RT.take (i := 16) rfl (by kernel_rfl) rfl (QO.load ty3 (by rfl) (by repeat (first | exact List.Mem.head _ | refine List.Mem.tail _ ?_)) (by rfl)) ?_) | (refine RT.take (i := 16) rfl (by kernel_rfl) rfl (QO.loadO ty3 (by rfl) (by assumption)) ?_) | (refine RT.take (i := 16) rfl (by kernel_rfl) rfl (QO.load ty3 (by rfl) (by repeat (first | exact List.Mem.head _ | refine List.Mem.tail _ ?_)) (by assumption)) ?_)
    refine RT.one (i := 2) (by kernel_rfl) rfl rfl ?_
    refine RS.call rfl (by rfl) ok94 (by rfl) (fun w ho => padded h _ h1) ?_
    rintro _ _ ⟨rfl, rfl⟩
    refine RS.nil ⟨(by repeat (first | exact List.Sublist.refl _ | exact List.nil_sublist _ | refine List.Sublist.cons_cons _ ?_ | refine List.Sublist.cons _ ?_ | exact Sbp.refl | exact Sbp.nil | refine Sbp.cons (by repeat (first | exact Rem.head | apply Rem.tail)) ?_ | exact Sbp.app | refine Sbp.skip ?_)), ?_⟩
    refine RT.take (i := 3) rfl (by kernel_rfl) rfl (QO.stradd (by rfl) (by rfl) (Nat.le_of_ble_eq_true rfl)) ?_
    refine RT.one (i := 6) (by kernel_rfl) rfl rfl ?_
    refine RS.call rfl (by rfl) ok94 (by rfl) (fun w ho => padded m _ h2) ?_
    rintro _ _ ⟨rfl, rfl⟩
    refine RS.nil ⟨(by repeat (first | exact List.Sublist.refl _ | exact List.nil_sublist _ | refine List.Sublist.cons_cons _ ?_ | refine List.Sublist.cons _ ?_ | exact Sbp.refl | exact Sbp.nil | refine Sbp.cons (by repeat (first | exact Rem.head | apply Rem.tail)) ?_ | exact Sbp.app | refine Sbp.skip ?_)), ?_⟩
    refine RT.take (i := 7) rfl (by kernel_rfl) rfl (QO.stradd (by rfl) (by rfl) (Nat.le_of_ble_eq_true rfl)) ?_
    refine RT.take (i := 8) rfl (by kernel_rfl) rfl (QO.stradd (by rfl) (by rfl) (Nat.le_of_ble_eq_true rfl)) ?_
    refine RT.one (i := 11) (by kernel_rfl) rfl rfl ?_
    refine RS.call rfl (by rfl) ok94 (by rfl) (fun w ho => padded s _ h3) ?_
    rintro _ _ ⟨rfl, rfl⟩
    refine RS.nil ⟨(by repeat (first | exact List.Sublist.refl _ | exact List.nil_sublist _ | refine List.Sublist.cons_cons _ ?_ | refine List.Sublist.cons _ ?_ | exact Sbp.refl | exact Sbp.nil | refine Sbp.cons (by repeat (first | exact Rem.head | apply Rem.tail)) ?_ | exact Sbp.app | refine Sbp.skip ?_)), ?_⟩
    refine RT.take (i := 12) rfl (by kernel_rfl) rfl (QO.stradd (by rfl) (by rfl) (Nat.le_of_ble_eq_true rfl)) ?_
    refine RT.take (i := 14) rfl (by kernel_rfl) rfl (QO.stradd (by rfl) (by rfl) (Nat.le_of_ble_eq_true rfl)) ?_
    refine RT.one (i := 17) (by kernel_rfl) rfl rfl ?_
    refine RS.call rfl (by rfl) ok94 (by rfl) (fun w ho => padded f _ h4) ?_
    rintro _ _ ⟨rfl, rfl⟩
    refine RS.nil ⟨(by repeat (first | exact List.Sublist.refl _ | exact List.nil_sublist _ | refine List.Sublist.cons_cons _ ?_ | refine List.Sublist.cons _ ?_ | exact Sbp.refl | exact Sbp.nil | refine Sbp.cons (by repeat (first | exact Rem.head | apply Rem.tail)) ?_ | exact Sbp.app | refine Sbp.skip ?_)), ?_⟩
    refine RT.take (i := 18) rfl (by kernel_rfl) rfl (QO.stradd (by rfl) (by rfl) (Nat.le_of_ble_eq_true rfl)) ?_
    refine RT.take (i := 19) rfl (by kernel_rfl) rfl (QO.assign) ?_
    refine RT.done (by kernel_rfl) ?_
    refine thenC_n ?_
    refine CS.ret ?_
    refine retQ.mk (H' := []) (.inr rfl) (RVs.tmp (by rfl) RVs.nil) (List.nil_sublist _) ?_
    exact ⟨rfl, rfl⟩

end Go.Proofs.YtapcgokcfmklbaaDoor
