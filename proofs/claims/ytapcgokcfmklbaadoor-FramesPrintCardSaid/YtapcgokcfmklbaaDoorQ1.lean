/-
  Contracts: numbers in sixteens written, zeros repeated, a byte written. Conditions: as each theorem says.
-/
import Derived.Test.YtapcgokcfmklbaaDoorQ0
import Derived.Test.YtapcgokcfmklbaaDoorK1
import Derived.Test.YtapcgokcfmklbaaDoorC6
import Derived.Test.YtapcgokcfmklbaaDoorP3
namespace Go.Proofs.YtapcgokcfmklbaaDoor
open Go Go.Proofs Go.RowKit

theorem ty5 : tyChk Tryd.prog 5 = some ([.int .u8 0], false, 1) := by kernel_rfl
theorem ty186 : tyChk Tryd.prog 186 = some ([.int .u8 0, .int .u8 0, .int .u8 0, .int .u8 0, .int .u8 0, .int .u8 0, .int .u8 0, .int .u8 0], true, 8) := by kernel_rfl
theorem ty265 : tyChk Tryd.prog 265 = some (List.replicate 65 (.int .u8 0), true, 65) := by kernel_rfl
theorem ok139 : callOK Tryd.prog 139 = true := by kernel_rfl
theorem ok154 : callOK Tryd.prog 154 = true := by kernel_rfl
theorem ok163 : callOK Tryd.prog 163 = true := by kernel_rfl
theorem ok164 : callOK Tryd.prog 164 = true := by kernel_rfl
theorem ok201 : callOK Tryd.prog 201 = true := by kernel_rfl
theorem ok208 : callOK Tryd.prog 208 = true := by kernel_rfl
theorem ok211 : callOK Tryd.prog 211 = true := by kernel_rfl
theorem ok212 : callOK Tryd.prog 212 = true := by kernel_rfl
theorem ok241 : callOK Tryd.prog 241 = true := by kernel_rfl
theorem ok242 : callOK Tryd.prog 242 = true := by kernel_rfl
theorem ok252 : callOK Tryd.prog 252 = true := by kernel_rfl

theorem slc_len {A : Option Addr} {n n' c : Nat} (h : n = n') : Value.slice A n c = .slice A n' c := by rw [h]
theorem mem_as {g : Nat} {t : TypeId} {xs ys : List Value} {H : HL} (h : (⟨g, t, xs⟩ : B) ∈ H) (e : xs = ys) : (⟨g, t, ys⟩ : B) ∈ H := e ▸ h
theorem cl_lt {n : Nat} (h : n < 4294967296) : cl n < 4294967296 := by unfold cl; split <;> omega
theorem hxC_len {n i : Nat} (hi : i ≤ 8) : (hxC n i).length = 8 := by
  unfold hxC bc
  rw [List.length_map, List.length_append, List.length_take, hxd_len, List.length_replicate]
  omega
theorem dig_idx' {k : Nat} (h : k < 16) : digs36[((k : Nat) : Int).toNat]? = some (dig (k % 16)) := by
  rw [Nat.mod_eq_of_lt h]; exact dig36 h
theorem fm_more {n j : Nat} (hn : n < 4294967296) (h : 16 ≤ n / 16 ^ j) : j + 1 < 8 := by
  rcases Nat.lt_or_ge j 7 with h1 | h1
  · omega
  · have h2 : n / 16 ^ j ≤ n / 16 ^ 7 := Nat.div_le_div_left (Nat.pow_le_pow_right (by decide) h1) (by decide)
    have h3 : (16 : Nat) ^ 7 = 268435456 := by decide
    rw [h3] at h2
    omega
theorem fm_div (n j : Nat) : n / 16 ^ j / 16 = n / 16 ^ (j + 1) := by rw [Nat.pow_succ, Nat.div_div_eq_div_mul]
theorem fm_lt {n j : Nat} (h : n / 16 ^ j < 16) : n < 16 ^ (j + 1) := by
  rw [Nat.pow_succ, Nat.mul_comm]
  exact (Nat.div_lt_iff_lt_mul (Nat.pow_pos (by decide))).1 h
theorem dv_lt {n j m : Nat} (h : n < m) : n / 16 ^ j < m := Nat.lt_of_le_of_lt (Nat.div_le_self _ _) h
theorem bc_rep (k : Nat) : (bc (List.replicate k 0)).length = k := by unfold bc; simp
theorem perm_w {a b : B} {A K : HL} : (a :: b :: (A ++ K)).Perm (a :: b :: (K ++ A)) := .cons _ (.cons _ List.perm_append_comm)

set_option maxHeartbeats 4000000 in
set_option maxRecDepth 100000 in
theorem hexP (n : Nat) (W : World) (hn : n < 4294967296) : Fn_ Tryd.prog 77 #[flt n] W (fun v H => v = sv (hexW n) ∧ H = []) := by
  have hc := cl_lt hn
  refine Fn_.intro Tryd.func77 rfl rfl (by rfl) ?_
  refine CS.seq ?_
  refine CS.region ?_
  refine RS.q rfl (QO.assign) ?_
  refine RS.nil ?_
  refine thenC_n ?_
  refine CS.seq ?_
  refine CS.region ?_
  refine RS.q rfl (QO.move) ?_
  refine RS.call rfl (by rfl) ok58 (by rfl) (fun w ho => bits _ _) ?_
  rintro _ _ ⟨rfl, rfl⟩
  refine RS.q rfl (QO.assign) ?_
  refine RS.nil ?_
  refine thenC_n ?_
  refine CS.seq ?_
  refine CS.region ?_
  refine RS.alloc rfl ty186 ?_
  intro g4
  refine RS.nil ?_
  refine thenC_n ?_
  refine CS.seq ?_
  refine CS.seq ?_
  refine CS.region ?_
  refine RS.q rfl (QO.move) ?_
  refine RS.nil ?_
  refine thenC_n ?_
  refine CS.block ?_
  refine CS.loop (X := Nat) (5 :: 8 :: 9 :: 10 :: 11 :: 12 :: 13 :: 14 :: 15 :: 16 :: 17 :: 18 :: 19 :: 20 :: []) (fun i => [(8, iv (i : Int))]) (fun i => [⟨g4, 186, hxC (cl n) i⟩]) (fun i => i ≤ 8) (fun i => 8 - i) 0 (Nat.zero_le _) ?_ ?_ ?_
  · exact (by repeat (first | exact kn_nil | refine kn_cons (by rfl) ?_))
  · exact (by repeat (first | exact List.Sublist.refl _ | exact List.nil_sublist _ | refine List.Sublist.cons_cons _ ?_ | refine List.Sublist.cons _ ?_ | exact Sbp.refl | exact Sbp.nil | refine Sbp.cons (by repeat (first | exact Rem.head | apply Rem.tail)) ?_ | exact Sbp.app | refine Sbp.skip ?_ | exact List.sublist_append_left _ _ | exact List.sublist_append_right _ _))
  · intro i gj4 hz
    refine CS.seq ?_
    refine CS.region ?_
    refine RS.q rfl (QO.lss (by rfl) (by rfl)) ?_
    refine RS.nil ?_
    refine thenC_n ?_
    refine CS.seq ?_
    refine CS.cond (by rfl) (fun hb0 => ?_) (fun hb0 => ?_)
    · have hb0p := of_decide_eq_true hb0
      refine CS.skip ?_
      refine thenC_n ?_
      refine CS.seq ?_
      refine CS.block ?_
      refine CS.seq ?_
      refine CS.region ?_
      refine RS.q rfl (QO.move) ?_
      refine RS.q rfl (QO.assign) ?_
      refine RS.nil ?_
      refine thenC_n ?_
      refine CS.region ?_
      refine RS.q rfl (QO.move) ?_
      refine RS.q rfl (QO.move) ?_
      refine RS.q rfl (QO.move) ?_
      first | (refine RS.q rfl (QO.mul (by rfl) (by rfl) (by omega) (by omega)) ?_) | (refine RS.q rfl (QO.ibin (by rfl) (by rfl) trivial) ?_)
      first | (refine RS.q rfl (QO.sub (by rfl) (by rfl) (by omega) (by omega)) ?_) | (refine RS.q rfl (QO.ibin (by rfl) (by rfl) trivial) ?_)
      refine RS.qv rfl (QO.shr2 (by rfl) (by rfl) (by omega)) (ibshr32 (show i < 8 by omega)) ?_
      refine RS.qv rfl (QO.ibin (by rfl) (by rfl) trivial) (iband32 (dv_lt hc)) ?_
      refine RS.q rfl (QO.idxStr (l := digs) Tryd.underlying9 (by rfl) (by rfl) (by omega) (dig_idx (m16 _))) ?_
      first | (refine RS.q rfl (QO.idxArr0 Tryd.underlying186 ty5 (by rfl) (by rfl) (by rfl) (by omega)) ?_) | (refine RS.q rfl (QO.idxArrn Tryd.underlying186 ty5 (by rfl) (by rfl) (by rfl) (by omega)) ?_) | (refine RS.q rfl (QO.idxArr Tryd.underlying186 ty5 (by rfl) (by rfl) (by omega) (by omega)) ?_)
      refine RS.store1e ty5 rfl (by rfl) (by rfl) (by rfl) (hxC_set (n := cl n) (i := i) (by omega)) (by repeat (first | exact Upd.head | apply Upd.tail)) (by rw [hxC_len (by omega)]; omega) ?_
      refine RS.nil ?_
      refine blockC_n ?_
      refine thenC_n ?_
      refine CS.region ?_
      first | (refine RS.q rfl (QO.add (by rfl) (by rfl) (by omega) (by omega)) ?_) | (refine RS.q rfl (QO.ibin (by rfl) (by rfl) trivial) ?_)
      refine RS.q rfl (QO.move) ?_
      refine RS.nil ?_
      refine loopQ_n (by intro t ht; repeat (first | with_reducible exact rfl | exact frame_puts ht (frame_mix ht) _ rfl | (refine frame_put rfl ht ?_) | (refine frame_puts ht ?_ _ rfl) | exact frame_mix ht | (refine frame_mix2 rfl ht ?_) | exact rfl)) ?_
      exact ⟨i + 1, by omega, by omega, (by repeat (first | exact kn_nil | refine kn_cons (by rfl) ?_)), (by repeat (first | exact List.Sublist.refl _ | exact List.nil_sublist _ | refine List.Sublist.cons_cons _ ?_ | refine List.Sublist.cons _ ?_ | exact Sbp.refl | exact Sbp.nil | refine Sbp.cons (by repeat (first | exact Rem.head | apply Rem.tail)) ?_ | exact Sbp.app | refine Sbp.skip ?_ | exact List.sublist_append_left _ _ | exact List.sublist_append_right _ _))⟩
    · have hb0p := of_decide_eq_false hb0
      refine CS.exit ?_
      refine thenC_x ?_
      refine loopQ_x ?_
      refine blockC_x ?_
      refine thenC_n ?_
      refine CS.seq ?_
      refine CS.region ?_
      have hi8 : i = 8 := by omega
      refine RS.q rfl (QO.cutArr Tryd.underlying186 ty5 (by rfl)) ?_
      refine RS.q rfl (QO.convBS (l := hexW n) (junk := []) Tryd.underlying107 Tryd.underlying5 Tryd.underlying9 (Eq.trans (b := Value.slice (some ⟨g4, 0, none⟩) 8 8) (by rfl) (slc_len (hexW_len n).symm)) (mem_as (xs := hxC (cl n) i) (by repeat (first | exact List.Mem.head _ | refine List.Mem.tail _ ?_)) (by rw [hi8, hxC_8, List.append_nil]; rfl))) ?_
      refine RS.q rfl (QO.assign) ?_
      refine RS.nil ?_
      refine thenC_n ?_
      refine CS.ret ?_
      refine retQ.mk (H' := []) (.inr rfl) (RVs.tmp (by rfl) RVs.nil) (List.nil_sublist _) ?_
      exact ⟨rfl, rfl⟩

set_option maxRecDepth 100000 in
theorem pow16 (W : World) : Fn_ Tryd.prog 241 #[iv 16] W (fun v H => v = .bool true ∧ H = []) := by
  refine Fn_.intro Tryd.func241 rfl rfl (by rfl) ?_
  refine CS.seq ?_
  refine CS.region ?_
  refine RS.q rfl (QO.assign) ?_
  refine RS.nil ?_
  refine thenC_n ?_
  refine CS.seq ?_
  refine CS.region ?_
  refine RS.q rfl (QO.move) ?_
  refine RS.q rfl (QO.move) ?_
  first | (refine RS.q rfl (QO.sub (by rfl) (by rfl) (by omega) (by omega)) ?_) | (refine RS.q rfl (QO.ibin (by rfl) (by rfl) trivial) ?_)
  refine RS.q rfl (QO.and64 (by rfl) (by rfl)) ?_
  refine RS.q rfl (QO.eql (by rfl) (by rfl)) ?_
  refine RS.q rfl (QO.assign) ?_
  refine RS.nil ?_
  refine thenC_n ?_
  refine CS.ret ?_
  refine retQ.mk (H' := []) (.inr rfl) (RVs.tmp (by rfl) RVs.nil) (List.nil_sublist _) ?_
  exact ⟨by rfl, rfl⟩

set_option maxRecDepth 100000 in
theorem tz16 (W : World) (hdb : W.cell? ⟨8, 15, none⟩ = some (.int .u8 4)) : Fn_ Tryd.prog 252 #[.int .u64 16] W (fun v H => v = iv 4 ∧ H = []) := by
  refine Fn_.intro Tryd.func252 rfl rfl (by rfl) ?_
  refine CS.seq ?_
  refine CS.region ?_
  refine RS.q rfl (QO.assign) ?_
  refine RS.nil ?_
  refine thenC_n ?_
  refine CS.seq ?_
  refine CS.seq ?_
  refine CS.region ?_
  refine RS.q rfl (QO.move) ?_
  refine RS.q rfl (QO.eql (by rfl) (by rfl)) ?_
  refine RS.nil ?_
  refine thenC_n ?_
  refine CS.condF (by rfl) rfl ?_
  refine CS.skip ?_
  refine thenC_n ?_
  refine CS.seq ?_
  refine CS.region ?_
  refine RS.q rfl (QO.move) ?_
  refine RS.q rfl (QO.move) ?_
  refine RS.q rfl (QO.neg64u (by rfl)) ?_
  refine RS.q rfl (QO.ibin (by rfl) (by rfl) trivial) ?_
  refine RS.q rfl (QO.ibin (by rfl) (by rfl) trivial) ?_
  refine RS.q rfl (QO.ibin (by rfl) (by rfl) (show (0:Int) ≤ _ by omega)) ?_
  refine RS.q rfl (QO.idxArr0 (j := 15) Tryd.underlying283 ty5 (by rfl) (by rfl) (by decide +kernel) (by decide)) ?_
  refine RS.q rfl (QO.loadO ty5 (by rfl) hdb) ?_
  refine RS.q rfl (QO.conv_int Tryd.underlying5 Tryd.underlying3 (by rfl)) ?_
  refine RS.q rfl (QO.assign) ?_
  refine RS.nil ?_
  refine thenC_n ?_
  refine CS.ret ?_
  refine retQ.mk (H' := []) (.inr rfl) (RVs.tmp (by rfl) RVs.nil) (List.nil_sublist _) ?_
  exact ⟨by rfl, rfl⟩

set_option maxRecDepth 100000 in
theorem tz16u (W : World) (hdb : W.cell? ⟨8, 15, none⟩ = some (.int .u8 4)) : Fn_ Tryd.prog 242 #[.int .u64 16] W (fun v H => v = iv 4 ∧ H = []) := by
  refine Fn_.intro Tryd.func242 rfl rfl (by rfl) ?_
  refine CS.seq ?_
  refine CS.region ?_
  refine RS.q rfl (QO.assign) ?_
  refine RS.nil ?_
  refine thenC_n ?_
  refine CS.seq ?_
  refine CS.condF (by rfl) rfl ?_
  refine CS.skip ?_
  refine thenC_n ?_
  refine CS.seq ?_
  refine CS.region ?_
  refine RS.q rfl (QO.move) ?_
  refine RS.call rfl (by rfl) ok252 (by rfl) (fun w ho => tz16 _ (ho.old hdb)) ?_
  rintro _ _ ⟨rfl, rfl⟩
  refine RS.q rfl (QO.assign) ?_
  refine RS.nil ?_
  refine thenC_n ?_
  refine CS.ret ?_
  refine retQ.mk (H' := []) (.inr rfl) (RVs.tmp (by rfl) RVs.nil) (List.nil_sublist _) ?_
  exact ⟨rfl, rfl⟩

set_option maxHeartbeats 4000000 in
set_option maxRecDepth 100000 in
theorem fmtBits (n : Nat) (W : World) (hn : n < 4294967296) (hdb : W.cell? ⟨8, 15, none⟩ = some (.int .u8 4)) : Fn_ Tryd.prog 208 #[.slice none 0 0, .int .u64 (n : Int), iv 16, .bool false, .bool false] W (fun v H => ∃ k, v = .tuple #[.slice none 0 0, sv (hxd k n)] ∧ n < 16 ^ k ∧ 0 < k ∧ k ≤ 8 ∧ H = []) := by
  refine Fn_.intro Tryd.func208 rfl rfl (by rfl) ?_
  refine CS.seq ?_
  refine CS.region ?_
  refine RS.q rfl (QO.assign) ?_
  refine RS.q rfl (QO.assign) ?_
  refine RS.nil ?_
  refine thenC_n ?_
  refine CS.seq ?_
  refine CS.seq ?_
  refine CS.region ?_
  refine RS.q rfl (QO.move) ?_
  refine RS.q rfl (QO.lss (by rfl) (by rfl)) ?_
  refine RS.q rfl (QO.move) ?_
  refine RS.on (dj := 21) rfl (congrArg Value.bool rfl) ?_
  refine RS.q rfl (QO.move) ?_
  refine RS.on (dj := 21) rfl (congrArg Value.bool rfl) ?_
  refine RS.q rfl (QO.eql (by rfl) (by rfl)) ?_
  refine RS.q rfl (QO.pickF (by rfl) rfl (by rfl)) ?_
  refine RS.q rfl (QO.move) ?_
  refine RS.on (dj := 25) rfl (congrArg Value.bool rfl) ?_
  refine RS.q rfl (QO.move) ?_
  refine RS.on (dj := 25) rfl (congrArg Value.bool rfl) ?_
  refine RS.q rfl (QO.gtr (by rfl) (by rfl)) ?_
  refine RS.q rfl (QO.pickF (by rfl) rfl (by rfl)) ?_
  refine RS.nil ?_
  refine thenC_n ?_
  refine CS.condF (by rfl) rfl ?_
  refine CS.skip ?_
  refine thenC_n ?_
  refine CS.seq ?_
  refine CS.region ?_
  refine RS.alloc rfl ty265 ?_
  intro g12
  refine RS.nil ?_
  refine thenC_n ?_
  refine CS.seq ?_
  refine CS.region ?_
  refine RS.q rfl (QO.assign) ?_
  refine RS.nil ?_
  refine thenC_n ?_
  refine CS.seq ?_
  refine CS.seq ?_
  refine CS.region ?_
  refine RS.q rfl (QO.move) ?_
  refine RS.nil ?_
  refine thenC_n ?_
  refine CS.condF (by rfl) rfl ?_
  refine CS.skip ?_
  refine thenC_n ?_
  refine CS.seq ?_
  refine CS.seq ?_
  refine CS.region ?_
  refine RS.q rfl (QO.move) ?_
  refine RS.call rfl (by rfl) ok241 (by rfl) (fun w ho => pow16 _) ?_
  rintro _ _ ⟨rfl, rfl⟩
  refine RS.nil ?_
  refine thenC_n ?_
  refine CS.condT (by rfl) rfl ?_
  refine CS.seq ?_
  refine CS.region ?_
  refine RS.q rfl (QO.move) ?_
  refine RS.qv rfl (QO.conv_int Tryd.underlying3 Tryd.underlying194 (by rfl)) (show _ = Value.int .u64 16 from rfl) ?_
  refine RS.call rfl (by rfl) ok242 (by rfl) (fun w ho => tz16u _ (ho.old hdb)) ?_
  rintro _ _ ⟨rfl, rfl⟩
  refine RS.qv rfl (QO.conv_int Tryd.underlying3 Tryd.underlying194 (by rfl)) (show _ = Value.int .u64 4 from rfl) ?_
  refine RS.q rfl (QO.assign) ?_
  refine RS.nil ?_
  refine thenC_n ?_
  refine CS.seq ?_
  refine CS.region ?_
  refine RS.q rfl (QO.move) ?_
  refine RS.qv rfl (QO.conv_int Tryd.underlying3 Tryd.underlying202 (by rfl)) (show _ = Value.int .u64 16 from rfl) ?_
  refine RS.q rfl (QO.assign) ?_
  refine RS.nil ?_
  refine thenC_n ?_
  refine CS.seq ?_
  refine CS.region ?_
  refine RS.q rfl (QO.move) ?_
  refine RS.qv rfl (QO.conv_int Tryd.underlying3 Tryd.underlying194 (by rfl)) (show _ = Value.int .u64 16 from rfl) ?_
  refine RS.qv rfl (QO.ibin (by rfl) (by rfl) trivial) (show _ = Value.int .u64 15 from rfl) ?_
  refine RS.q rfl (QO.assign) ?_
  refine RS.nil ?_
  refine thenC_n ?_
  refine CS.seq ?_
  refine CS.block ?_
  refine CS.loop (X := Nat) (1 :: 13 :: 44 :: 45 :: 46 :: 47 :: 48 :: 49 :: 50 :: 51 :: 52 :: 53 :: 54 :: 55 :: 56 :: 57 :: []) (fun j => [(1, .int .u64 ((n / 16 ^ j : Nat) : Int)), (13, iv ((65 - j : Nat) : Int))]) (fun j => [⟨g12, 265, fmC n j⟩]) (fun j => j ≤ 7) (fun j => 8 - j) 0 (Nat.zero_le _) ?_ ?_ ?_
  · exact kn_cons (congrArg (fun q : Nat => Value.int .u64 (q : Int)) (show n = n / 16 ^ 0 by rw [Nat.pow_zero, Nat.div_one])) (kn_cons rfl kn_nil)
  · exact (by repeat (first | exact List.Sublist.refl _ | exact List.nil_sublist _ | refine List.Sublist.cons_cons _ ?_ | refine List.Sublist.cons _ ?_ | exact Sbp.refl | exact Sbp.nil | refine Sbp.cons (by repeat (first | exact Rem.head | apply Rem.tail)) ?_ | exact Sbp.app | refine Sbp.skip ?_ | exact List.sublist_append_left _ _ | exact List.sublist_append_right _ _))
  · intro j gj11 hz
    refine CS.seq ?_
    refine CS.seq ?_
    refine CS.region ?_
    refine RS.q rfl (QO.move) ?_
    refine RS.q rfl (QO.move) ?_
    refine RS.q rfl (QO.geq (by rfl) (by rfl)) ?_
    refine RS.nil ?_
    refine thenC_n ?_
    refine CS.cond (by rfl) (fun hb0 => ?_) (fun hb0 => ?_)
    · have hb0p := of_decide_eq_true hb0
      refine CS.skip ?_
      refine thenC_n ?_
      refine CS.block ?_
      refine CS.seq ?_
      refine CS.region ?_
      refine RS.q rfl (QO.move) ?_
      first | (refine RS.qv rfl (QO.sub (by rfl) (by rfl) (by omega) (by omega)) (congrArg iv (show ((65 - j : Nat) : Int) - 1 = ((64 - j : Nat) : Int) by omega)) ?_) | (refine RS.qv rfl (QO.ibin (by rfl) (by rfl) trivial) (congrArg iv (show ((65 - j : Nat) : Int) - 1 = ((64 - j : Nat) : Int) by omega)) ?_)
      refine RS.q rfl (QO.assign) ?_
      refine RS.nil ?_
      refine thenC_n ?_
      refine CS.seq ?_
      refine CS.region ?_
      refine RS.q rfl (QO.move) ?_
      refine RS.q rfl (QO.move) ?_
      refine RS.q rfl (QO.move) ?_
      refine RS.qv rfl (QO.ibin (by rfl) (by rfl) trivial) (iband64 (dv_lt (Nat.lt_trans hn (by decide)))) ?_
      refine RS.q rfl (QO.idxStr (l := digs36) Tryd.underlying9 (by rfl) (by rfl) (by omega) (dig36 (m16 _))) ?_
      first | (refine RS.q rfl (QO.idxArr0 Tryd.underlying265 ty5 (by rfl) (by rfl) (by rfl) (by omega)) ?_) | (refine RS.q rfl (QO.idxArrn Tryd.underlying265 ty5 (by rfl) (by rfl) (by rfl) (by omega)) ?_) | (refine RS.q rfl (QO.idxArr Tryd.underlying265 ty5 (by rfl) (by rfl) (by omega) (by omega)) ?_)
      refine RS.store1e ty5 rfl (by rfl) (by rfl) (by rfl) (fmC_set (n := n) (j := j) (by omega)) (by repeat (first | exact Upd.head | apply Upd.tail)) (by rw [fmC_len _ _ (by omega)]; omega) ?_
      refine RS.nil ?_
      refine thenC_n ?_
      refine CS.region ?_
      refine RS.q rfl (QO.move) ?_
      refine RS.q rfl (QO.move) ?_
      refine RS.qv rfl (QO.shr2 (by rfl) (by rfl) (by decide)) (ibshr64) ?_
      refine RS.q rfl (QO.assign) ?_
      refine RS.nil ?_
      refine blockC_n ?_
      refine loopQ_n (by intro t ht; repeat (first | with_reducible exact rfl | exact frame_puts ht (frame_mix ht) _ rfl | (refine frame_put rfl ht ?_) | (refine frame_puts ht ?_ _ rfl) | exact frame_mix ht | (refine frame_mix2 rfl ht ?_) | exact rfl)) ?_
      have hmr := fm_more (n := n) (j := j) hn (Int.ofNat_le.1 hb0p)
      exact ⟨j + 1, by omega, by omega, kn_cons (congrArg (fun q : Nat => Value.int .u64 (q : Int)) (fm_div n j)) (kn_cons (congrArg iv (show ((64 - j : Nat) : Int) = ((65 - (j + 1) : Nat) : Int) by omega)) kn_nil), (by repeat (first | exact List.Sublist.refl _ | exact List.nil_sublist _ | refine List.Sublist.cons_cons _ ?_ | refine List.Sublist.cons _ ?_ | exact Sbp.refl | exact Sbp.nil | refine Sbp.cons (by repeat (first | exact Rem.head | apply Rem.tail)) ?_ | exact Sbp.app | refine Sbp.skip ?_ | exact List.sublist_append_left _ _ | exact List.sublist_append_right _ _))⟩
    · have hb0p := of_decide_eq_false hb0
      refine CS.exit ?_
      refine thenC_x ?_
      refine loopQ_x ?_
      refine blockC_x ?_
      refine thenC_n ?_
      refine CS.seq ?_
      refine CS.region ?_
      refine RS.q rfl (QO.move) ?_
      first | (refine RS.qv rfl (QO.sub (by rfl) (by rfl) (by omega) (by omega)) (congrArg iv (show ((65 - j : Nat) : Int) - 1 = ((64 - j : Nat) : Int) by omega)) ?_) | (refine RS.qv rfl (QO.ibin (by rfl) (by rfl) trivial) (congrArg iv (show ((65 - j : Nat) : Int) - 1 = ((64 - j : Nat) : Int) by omega)) ?_)
      refine RS.q rfl (QO.assign) ?_
      refine RS.nil ?_
      refine thenC_n ?_
      refine CS.region ?_
      have hq16 : n / 16 ^ j < 16 := Int.ofNat_lt.1 (Int.not_le.1 hb0p)
      refine RS.q rfl (QO.move) ?_
      refine RS.q rfl (QO.move) ?_
      refine RS.q rfl (QO.idxStr (l := digs36) Tryd.underlying9 (by rfl) (by rfl) (Int.natCast_nonneg _) (dig_idx' (k := n / 16 ^ j) hq16)) ?_
      first | (refine RS.q rfl (QO.idxArr0 Tryd.underlying265 ty5 (by rfl) (by rfl) (by rfl) (by omega)) ?_) | (refine RS.q rfl (QO.idxArrn Tryd.underlying265 ty5 (by rfl) (by rfl) (by rfl) (by omega)) ?_) | (refine RS.q rfl (QO.idxArr Tryd.underlying265 ty5 (by rfl) (by rfl) (by omega) (by omega)) ?_)
      refine RS.store1e ty5 rfl (by rfl) (by rfl) (by rfl) (fmC_set (n := n) (j := j) (by omega)) (by repeat (first | exact Upd.head | apply Upd.tail)) (by rw [fmC_len _ _ (by omega)]; omega) ?_
      refine RS.nil ?_
      refine thenC_n ?_
      refine CS.seq ?_
      refine CS.seq ?_
      refine CS.region ?_
      refine RS.q rfl (QO.move) ?_
      refine RS.nil ?_
      refine thenC_n ?_
      refine CS.condF (by rfl) rfl ?_
      refine CS.skip ?_
      refine thenC_n ?_
      refine CS.seq ?_
      refine CS.seq ?_
      refine CS.region ?_
      refine RS.q rfl (QO.move) ?_
      refine RS.nil ?_
      refine thenC_n ?_
      refine CS.condF (by rfl) rfl ?_
      refine CS.skip ?_
      refine thenC_n ?_
      refine CS.seq ?_
      refine CS.region ?_
      refine RS.q rfl (QO.move) ?_
      refine RS.q rfl (QO.cutArrLo (i := 64 - j) Tryd.underlying265 ty5 (by rfl) (by rfl) (by omega)) ?_
      refine RS.q rfl (QO.convBSo (l := hxd (j + 1) n) (pre := bc (List.replicate (65 - (j + 1)) 0)) Tryd.underlying107 Tryd.underlying5 Tryd.underlying9 (Eq.trans (b := Value.slice (some ⟨g12, 64 - j, none⟩) (65 - (64 - j)) (65 - (64 - j))) (by rfl) (slc_len (by rw [hxd_len]; omega))) (by rw [bc_rep]; omega) (mem_as (xs := fmC n (j + 1)) (by repeat (first | exact List.Mem.head _ | refine List.Mem.tail _ ?_)) (fmC_parts n (j + 1)))) ?_
      refine RS.q rfl (QO.assign) ?_
      refine RS.nil ?_
      refine thenC_n ?_
      refine CS.ret ?_
      refine retQ.mk (H' := []) (.inr rfl) (RVs.tmp (by rfl) (RVs.tmp (by rfl) RVs.nil)) (List.nil_sublist _) ?_
      exact ⟨j + 1, rfl, fm_lt hq16, by omega, by omega, rfl⟩

set_option maxRecDepth 100000 in
theorem fmtU0 (n : Nat) (W : World) (hn : n < 4294967296) (hdb : W.cell? ⟨8, 15, none⟩ = some (.int .u8 4)) : Fn_ Tryd.prog 201 #[.int .u64 (n : Int), iv 16] W (fun v H => ∃ k, v = sv (hxd k n) ∧ n < 16 ^ k ∧ 0 < k ∧ k ≤ 8 ∧ H = []) := by
  refine Fn_.intro Tryd.func201 rfl rfl (by rfl) ?_
  refine CS.seq ?_
  refine CS.region ?_
  refine RS.q rfl (QO.assign) ?_
  refine RS.nil ?_
  refine thenC_n ?_
  refine CS.seq ?_
  refine CS.seq ?_
  refine CS.region ?_
  refine RS.q rfl (QO.move) ?_
  refine RS.q rfl (QO.eql (by rfl) (by rfl)) ?_
  refine RS.nil ?_
  refine thenC_n ?_
  refine CS.condF (by rfl) rfl ?_
  refine CS.skip ?_
  refine thenC_n ?_
  refine CS.seq ?_
  refine CS.region ?_
  refine RS.q rfl (QO.move) ?_
  refine RS.q rfl (QO.move) ?_
  refine RS.call rfl (by rfl) ok208 (by rfl) (fun w ho => fmtBits n _ hn (ho.old hdb)) ?_
  rintro _ _ ⟨k, rfl, hk1, hk2, hk3, rfl⟩
  refine RS.q rfl (QO.move) ?_
  refine RS.q rfl (QO.extract (by rfl) (by rfl)) ?_
  refine RS.q rfl (QO.extract (by rfl) (by rfl)) ?_
  refine RS.q rfl (QO.assign) ?_
  refine RS.q rfl (QO.assign) ?_
  refine RS.nil ?_
  refine thenC_n ?_
  refine CS.seq ?_
  refine CS.region ?_
  refine RS.q rfl (QO.move) ?_
  refine RS.q rfl (QO.assign) ?_
  refine RS.nil ?_
  refine thenC_n ?_
  refine CS.ret ?_
  refine retQ.mk (H' := []) (.inr rfl) (RVs.tmp (by rfl) RVs.nil) (List.nil_sublist _) ?_
  exact ⟨k, rfl, hk1, hk2, hk3, rfl⟩

set_option maxRecDepth 100000 in
theorem fmtU (n : Nat) (W : World) (hn : n < 4294967296) (hdb : W.cell? ⟨8, 15, none⟩ = some (.int .u8 4)) : Fn_ Tryd.prog 154 #[.int .u64 (n : Int), iv 16] W (fun v H => ∃ k, v = sv (hxd k n) ∧ n < 16 ^ k ∧ 0 < k ∧ k ≤ 8 ∧ H = []) := by
  refine Fn_.intro Tryd.func154 rfl rfl (by rfl) ?_
  refine CS.seq ?_
  refine CS.region ?_
  refine RS.q rfl (QO.assign) ?_
  refine RS.nil ?_
  refine thenC_n ?_
  refine CS.seq ?_
  refine CS.region ?_
  refine RS.q rfl (QO.move) ?_
  refine RS.q rfl (QO.move) ?_
  refine RS.call rfl (by rfl) ok201 (by rfl) (fun w ho => fmtU0 n _ hn (ho.old hdb)) ?_
  rintro _ _ ⟨k, rfl, hk1, hk2, hk3, rfl⟩
  refine RS.q rfl (QO.assign) ?_
  refine RS.nil ?_
  refine thenC_n ?_
  refine CS.ret ?_
  refine retQ.mk (H' := []) (.inr rfl) (RVs.tmp (by rfl) RVs.nil) (List.nil_sublist _) ?_
  exact ⟨k, rfl, hk1, hk2, hk3, rfl⟩

set_option maxRecDepth 100000 in
theorem hasP0 (a b : UInt8) (l : List UInt8) (W : World) : Fn_ Tryd.prog 212 #[sv (a :: l), sv [b]] W (fun v H => v = .bool (decide (a = b)) ∧ H = []) := by
  refine Fn_.intro Tryd.func212 rfl rfl (by rfl) ?_
  refine CS.seq ?_
  refine CS.region ?_
  refine RS.q rfl (QO.assign) ?_
  refine RS.nil ?_
  refine thenC_n ?_
  refine CS.seq ?_
  refine CS.region ?_
  refine RS.q rfl (QO.move) ?_
  refine RS.q rfl (QO.lenStr Tryd.underlying9 (by rfl)) ?_
  refine RS.q rfl (QO.move) ?_
  refine RS.q rfl (QO.lenStr Tryd.underlying9 (by rfl)) ?_
  refine RS.q rfl (QO.geq (by rfl) (by rfl)) ?_
  refine RS.q rfl (QO.move) ?_
  refine RS.on (dj := 10) rfl (congrArg Value.bool (decide_eq_true (by show (1 : Int) ≤ (((a :: l).length : Nat) : Int); rw [List.length_cons]; omega))) ?_
  refine RS.q rfl (QO.move) ?_
  refine RS.on (dj := 10) rfl (congrArg Value.bool (decide_eq_true (by show (1 : Int) ≤ (((a :: l).length : Nat) : Int); rw [List.length_cons]; omega))) ?_
  refine RS.q rfl (QO.move) ?_
  refine RS.on (dj := 10) rfl (congrArg Value.bool (decide_eq_true (by show (1 : Int) ≤ (((a :: l).length : Nat) : Int); rw [List.length_cons]; omega))) ?_
  refine RS.q rfl (QO.lenStr Tryd.underlying9 (by rfl)) ?_
  refine RS.on (dj := 10) rfl (congrArg Value.bool (decide_eq_true (by show (1 : Int) ≤ (((a :: l).length : Nat) : Int); rw [List.length_cons]; omega))) ?_
  refine RS.qv rfl (QO.cutStrHi Tryd.underlying9 (by rfl) (by rfl) (Int.natCast_nonneg _) (by show (1 : Int) ≤ (((a :: l).length : Nat) : Int); rw [List.length_cons]; omega)) (show _ = sv [a] from rfl) ?_
  refine RS.on (dj := 10) rfl (congrArg Value.bool (decide_eq_true (by show (1 : Int) ≤ (((a :: l).length : Nat) : Int); rw [List.length_cons]; omega))) ?_
  refine RS.q rfl (QO.move) ?_
  refine RS.on (dj := 10) rfl (congrArg Value.bool (decide_eq_true (by show (1 : Int) ≤ (((a :: l).length : Nat) : Int); rw [List.length_cons]; omega))) ?_
  refine RS.q rfl (QO.streq (by rfl) (by rfl)) ?_
  refine RS.q rfl (QO.pickT (by rfl) (decide_eq_true (by show (1 : Int) ≤ (((a :: l).length : Nat) : Int); rw [List.length_cons]; omega)) (by rfl)) ?_
  refine RS.q rfl (QO.assign) ?_
  refine RS.nil ?_
  refine thenC_n ?_
  refine CS.ret ?_
  refine retQ.mk (H' := []) (.inr rfl) (RVs.tmp (by rfl) RVs.nil) (List.nil_sublist _) ?_
  exact ⟨congrArg Value.bool (by by_cases h : a = b <;> simp [h]), rfl⟩

set_option maxRecDepth 100000 in
theorem hasP (a b : UInt8) (l : List UInt8) (W : World) : Fn_ Tryd.prog 164 #[sv (a :: l), sv [b]] W (fun v H => v = .bool (decide (a = b)) ∧ H = []) := by
  refine Fn_.intro Tryd.func164 rfl rfl (by rfl) ?_
  refine CS.seq ?_
  refine CS.region ?_
  refine RS.q rfl (QO.assign) ?_
  refine RS.nil ?_
  refine thenC_n ?_
  refine CS.seq ?_
  refine CS.region ?_
  refine RS.q rfl (QO.move) ?_
  refine RS.q rfl (QO.move) ?_
  refine RS.call rfl (by rfl) ok212 (by rfl) (fun w ho => hasP0 a b l _) ?_
  rintro _ _ ⟨rfl, rfl⟩
  refine RS.q rfl (QO.assign) ?_
  refine RS.nil ?_
  refine thenC_n ?_
  refine CS.ret ?_
  refine retQ.mk (H' := []) (.inr rfl) (RVs.tmp (by rfl) RVs.nil) (List.nil_sublist _) ?_
  exact ⟨rfl, rfl⟩

set_option maxRecDepth 100000 in
theorem rep0 (s : List UInt8) (W : World) : Fn_ Tryd.prog 139 #[sv s, iv 0] W (fun v H => v = sv [] ∧ H = []) := by
  refine Fn_.intro Tryd.func139 rfl rfl (by rfl) ?_
  refine CS.seq ?_
  refine CS.region ?_
  refine RS.q rfl (QO.assign) ?_
  refine RS.nil ?_
  refine thenC_n ?_
  refine CS.seq ?_
  refine CS.seq ?_
  refine CS.region ?_
  refine RS.q rfl (QO.move) ?_
  refine RS.nil ?_
  refine thenC_n ?_
  refine CS.block ?_
  refine CS.seq ?_
  refine CS.region ?_
  refine RS.q rfl (QO.eql (by rfl) (by rfl)) ?_
  refine RS.q rfl (QO.assign) ?_
  refine RS.nil ?_
  refine thenC_n ?_
  refine CS.condT (by rfl) rfl ?_
  refine CS.seq ?_
  refine CS.region ?_
  refine RS.q rfl (QO.assign) ?_
  refine RS.nil ?_
  refine thenC_n ?_
  refine CS.ret ?_
  refine blockC_r ?_
  refine thenC_r ?_
  refine retQ.mk (H' := []) (.inr rfl) (RVs.tmp (by rfl) RVs.nil) (List.nil_sublist _) ?_
  exact ⟨rfl, rfl⟩

set_option maxRecDepth 100000 in
theorem rep1 (s : List UInt8) (W : World) : Fn_ Tryd.prog 139 #[sv s, iv 1] W (fun v H => v = sv s ∧ H = []) := by
  refine Fn_.intro Tryd.func139 rfl rfl (by rfl) ?_
  refine CS.seq ?_
  refine CS.region ?_
  refine RS.q rfl (QO.assign) ?_
  refine RS.nil ?_
  refine thenC_n ?_
  refine CS.seq ?_
  refine CS.seq ?_
  refine CS.region ?_
  refine RS.q rfl (QO.move) ?_
  refine RS.nil ?_
  refine thenC_n ?_
  refine CS.block ?_
  refine CS.seq ?_
  refine CS.region ?_
  refine RS.q rfl (QO.eql (by rfl) (by rfl)) ?_
  refine RS.q rfl (QO.assign) ?_
  refine RS.nil ?_
  refine thenC_n ?_
  refine CS.condF (by rfl) rfl ?_
  refine CS.seq ?_
  refine CS.region ?_
  refine RS.q rfl (QO.eql (by rfl) (by rfl)) ?_
  refine RS.q rfl (QO.assign) ?_
  refine RS.nil ?_
  refine thenC_n ?_
  refine CS.condT (by rfl) rfl ?_
  refine CS.seq ?_
  refine CS.region ?_
  refine RS.q rfl (QO.move) ?_
  refine RS.q rfl (QO.assign) ?_
  refine RS.nil ?_
  refine thenC_n ?_
  refine CS.ret ?_
  refine blockC_r ?_
  refine thenC_r ?_
  refine retQ.mk (H' := []) (.inr rfl) (RVs.tmp (by rfl) RVs.nil) (List.nil_sublist _) ?_
  exact ⟨rfl, rfl⟩

set_option maxRecDepth 100000 in
theorem mul64_2 (W : World) : Fn_ Tryd.prog 211 #[.int .u64 1, .int .u64 2] W (fun v H => v = .tuple #[.int .u64 0, .int .u64 2] ∧ H = []) := by
  refine Fn_.intro Tryd.func211 rfl rfl (by rfl) ?_
  refine CS.seq ?_
  refine CS.region ?_
  refine RS.q rfl (QO.assign) ?_
  refine RS.q rfl (QO.assign) ?_
  refine RS.nil ?_
  refine thenC_n ?_
  refine CS.seq ?_
  refine CS.region ?_
  refine RS.q rfl (QO.move) ?_
  refine RS.q rfl (QO.ibin (by rfl) (by rfl) trivial) ?_
  refine RS.q rfl (QO.assign) ?_
  refine RS.nil ?_
  refine thenC_n ?_
  refine CS.seq ?_
  refine CS.region ?_
  refine RS.q rfl (QO.move) ?_
  refine RS.q rfl (QO.ibin (by rfl) (by rfl) (show (0:Int) ≤ _ by omega)) ?_
  refine RS.q rfl (QO.assign) ?_
  refine RS.nil ?_
  refine thenC_n ?_
  refine CS.seq ?_
  refine CS.region ?_
  refine RS.q rfl (QO.move) ?_
  refine RS.q rfl (QO.ibin (by rfl) (by rfl) trivial) ?_
  refine RS.q rfl (QO.assign) ?_
  refine RS.nil ?_
  refine thenC_n ?_
  refine CS.seq ?_
  refine CS.region ?_
  refine RS.q rfl (QO.move) ?_
  refine RS.q rfl (QO.ibin (by rfl) (by rfl) (show (0:Int) ≤ _ by omega)) ?_
  refine RS.q rfl (QO.assign) ?_
  refine RS.nil ?_
  refine thenC_n ?_
  refine CS.seq ?_
  refine CS.region ?_
  refine RS.q rfl (QO.move) ?_
  refine RS.q rfl (QO.move) ?_
  refine RS.q rfl (QO.ibin (by rfl) (by rfl) trivial) ?_
  refine RS.q rfl (QO.assign) ?_
  refine RS.nil ?_
  refine thenC_n ?_
  refine CS.seq ?_
  refine CS.region ?_
  refine RS.q rfl (QO.move) ?_
  refine RS.q rfl (QO.move) ?_
  refine RS.q rfl (QO.ibin (by rfl) (by rfl) trivial) ?_
  refine RS.q rfl (QO.move) ?_
  refine RS.q rfl (QO.ibin (by rfl) (by rfl) (show (0:Int) ≤ _ by omega)) ?_
  refine RS.q rfl (QO.ibin (by rfl) (by rfl) trivial) ?_
  refine RS.q rfl (QO.assign) ?_
  refine RS.nil ?_
  refine thenC_n ?_
  refine CS.seq ?_
  refine CS.region ?_
  refine RS.q rfl (QO.move) ?_
  refine RS.q rfl (QO.ibin (by rfl) (by rfl) trivial) ?_
  refine RS.q rfl (QO.assign) ?_
  refine RS.nil ?_
  refine thenC_n ?_
  refine CS.seq ?_
  refine CS.region ?_
  refine RS.q rfl (QO.move) ?_
  refine RS.q rfl (QO.ibin (by rfl) (by rfl) (show (0:Int) ≤ _ by omega)) ?_
  refine RS.q rfl (QO.assign) ?_
  refine RS.nil ?_
  refine thenC_n ?_
  refine CS.seq ?_
  refine CS.region ?_
  refine RS.q rfl (QO.move) ?_
  refine RS.q rfl (QO.move) ?_
  refine RS.q rfl (QO.move) ?_
  refine RS.q rfl (QO.ibin (by rfl) (by rfl) trivial) ?_
  refine RS.q rfl (QO.ibin (by rfl) (by rfl) trivial) ?_
  refine RS.q rfl (QO.assign) ?_
  refine RS.nil ?_
  refine thenC_n ?_
  refine CS.seq ?_
  refine CS.region ?_
  refine RS.q rfl (QO.move) ?_
  refine RS.q rfl (QO.move) ?_
  refine RS.q rfl (QO.ibin (by rfl) (by rfl) trivial) ?_
  refine RS.q rfl (QO.move) ?_
  refine RS.q rfl (QO.ibin (by rfl) (by rfl) trivial) ?_
  refine RS.q rfl (QO.move) ?_
  refine RS.q rfl (QO.ibin (by rfl) (by rfl) (show (0:Int) ≤ _ by omega)) ?_
  refine RS.q rfl (QO.ibin (by rfl) (by rfl) trivial) ?_
  refine RS.q rfl (QO.assign) ?_
  refine RS.nil ?_
  refine thenC_n ?_
  refine CS.seq ?_
  refine CS.region ?_
  refine RS.q rfl (QO.move) ?_
  refine RS.q rfl (QO.move) ?_
  refine RS.q rfl (QO.ibin (by rfl) (by rfl) trivial) ?_
  refine RS.q rfl (QO.assign) ?_
  refine RS.nil ?_
  refine thenC_n ?_
  refine CS.ret ?_
  refine retQ.mk (H' := []) (.inr rfl) (RVs.tmp (by rfl) (RVs.tmp (by rfl) RVs.nil)) (List.nil_sublist _) ?_
  exact ⟨by rfl, rfl⟩

set_option maxRecDepth 100000 in
theorem mul_2 (W : World) : Fn_ Tryd.prog 163 #[.int .u64 1, .int .u64 2] W (fun v H => v = .tuple #[.int .u64 0, .int .u64 2] ∧ H = []) := by
  refine Fn_.intro Tryd.func163 rfl rfl (by rfl) ?_
  refine CS.seq ?_
  refine CS.region ?_
  refine RS.q rfl (QO.assign) ?_
  refine RS.q rfl (QO.assign) ?_
  refine RS.nil ?_
  refine thenC_n ?_
  refine CS.seq ?_
  refine CS.condF (by rfl) rfl ?_
  refine CS.skip ?_
  refine thenC_n ?_
  refine CS.seq ?_
  refine CS.region ?_
  refine RS.q rfl (QO.move) ?_
  refine RS.q rfl (QO.move) ?_
  refine RS.call rfl (by rfl) ok211 (by rfl) (fun w ho => mul64_2 _) ?_
  rintro _ _ ⟨rfl, rfl⟩
  refine RS.q rfl (QO.move) ?_
  refine RS.q rfl (QO.extract (by rfl) (by rfl)) ?_
  refine RS.q rfl (QO.extract (by rfl) (by rfl)) ?_
  refine RS.q rfl (QO.assign) ?_
  refine RS.q rfl (QO.assign) ?_
  refine RS.nil ?_
  refine thenC_n ?_
  refine CS.seq ?_
  refine CS.region ?_
  refine RS.q rfl (QO.move) ?_
  refine RS.q rfl (QO.move) ?_
  refine RS.q rfl (QO.assign) ?_
  refine RS.q rfl (QO.assign) ?_
  refine RS.nil ?_
  refine thenC_n ?_
  refine CS.ret ?_
  refine retQ.mk (H' := []) (.inr rfl) (RVs.tmp (by rfl) (RVs.tmp (by rfl) RVs.nil)) (List.nil_sublist _) ?_
  exact ⟨rfl, rfl⟩

set_option maxHeartbeats 4000000 in
set_option maxRecDepth 100000 in
theorem rep2 (W : World) : Fn_ Tryd.prog 139 #[sv [48], iv 2] W (fun v H => v = sv (List.replicate 2 48) ∧ H = []) := by
  refine Fn_.intro Tryd.func139 rfl rfl (by rfl) ?_
  refine CS.seq ?_
  refine CS.region ?_
  refine RS.q rfl (QO.assign) ?_
  refine RS.nil ?_
  refine thenC_n ?_
  refine CS.seq ?_
  refine CS.seq ?_
  refine CS.region ?_
  refine RS.q rfl (QO.move) ?_
  refine RS.nil ?_
  refine thenC_n ?_
  refine CS.block ?_
  refine CS.seq ?_
  refine CS.region ?_
  refine RS.q rfl (QO.eql (by rfl) (by rfl)) ?_
  refine RS.q rfl (QO.assign) ?_
  refine RS.nil ?_
  refine thenC_n ?_
  refine CS.condF (by rfl) rfl ?_
  refine CS.seq ?_
  refine CS.region ?_
  refine RS.q rfl (QO.eql (by rfl) (by rfl)) ?_
  refine RS.q rfl (QO.assign) ?_
  refine RS.nil ?_
  refine thenC_n ?_
  refine CS.condF (by rfl) rfl ?_
  refine CS.skip ?_
  refine blockC_n ?_
  refine thenC_n ?_
  refine CS.seq ?_
  refine CS.seq ?_
  refine CS.region ?_
  refine RS.q rfl (QO.move) ?_
  refine RS.q rfl (QO.lss (by rfl) (by rfl)) ?_
  refine RS.nil ?_
  refine thenC_n ?_
  refine CS.condF (by rfl) rfl ?_
  refine CS.skip ?_
  refine thenC_n ?_
  refine CS.seq ?_
  refine CS.region ?_
  refine RS.q rfl (QO.move) ?_
  refine RS.q rfl (QO.lenStr Tryd.underlying9 (by rfl)) ?_
  refine RS.qv rfl (QO.conv_int Tryd.underlying3 Tryd.underlying194 (by rfl)) (show _ = Value.int .u64 1 from rfl) ?_
  refine RS.q rfl (QO.move) ?_
  refine RS.qv rfl (QO.conv_int Tryd.underlying3 Tryd.underlying194 (by rfl)) (show _ = Value.int .u64 2 from rfl) ?_
  refine RS.call rfl (by rfl) ok163 (by rfl) (fun w ho => mul_2 _) ?_
  rintro _ _ ⟨rfl, rfl⟩
  refine RS.q rfl (QO.move) ?_
  refine RS.q rfl (QO.extract (by rfl) (by rfl)) ?_
  refine RS.q rfl (QO.extract (by rfl) (by rfl)) ?_
  refine RS.q rfl (QO.assign) ?_
  refine RS.q rfl (QO.assign) ?_
  refine RS.nil ?_
  refine thenC_n ?_
  refine CS.seq ?_
  refine CS.seq ?_
  refine CS.region ?_
  refine RS.q rfl (QO.move) ?_
  refine RS.q rfl (QO.gtr (by rfl) (by rfl)) ?_
  refine RS.q rfl (QO.move) ?_
  refine RS.on (dj := 31) rfl (congrArg Value.bool rfl) ?_
  refine RS.q rfl (QO.move) ?_
  refine RS.on (dj := 31) rfl (congrArg Value.bool rfl) ?_
  refine RS.q rfl (QO.gtr (by rfl) (by rfl)) ?_
  refine RS.q rfl (QO.pickF (by rfl) rfl (by rfl)) ?_
  refine RS.nil ?_
  refine thenC_n ?_
  refine CS.condF (by rfl) rfl ?_
  refine CS.skip ?_
  refine thenC_n ?_
  refine CS.seq ?_
  refine CS.region ?_
  refine RS.q rfl (QO.move) ?_
  refine RS.qv rfl (QO.conv_int Tryd.underlying194 Tryd.underlying3 (by rfl)) (show _ = iv 2 from rfl) ?_
  refine RS.q rfl (QO.assign) ?_
  refine RS.nil ?_
  refine thenC_n ?_
  refine CS.seq ?_
  refine CS.seq ?_
  refine CS.region ?_
  refine RS.q rfl (QO.move) ?_
  refine RS.q rfl (QO.lenStr Tryd.underlying9 (by rfl)) ?_
  refine RS.q rfl (QO.eql (by rfl) (by rfl)) ?_
  refine RS.nil ?_
  refine thenC_n ?_
  refine CS.condF (by rfl) rfl ?_
  refine CS.skip ?_
  refine thenC_n ?_
  refine CS.seq ?_
  refine CS.seq ?_
  refine CS.region ?_
  refine RS.q rfl (QO.move) ?_
  refine RS.q rfl (QO.idxStr (b := 48) Tryd.underlying9 (by rfl) (by rfl) (by decide) (by rfl)) ?_
  refine RS.nil ?_
  refine thenC_n ?_
  refine CS.block ?_
  refine CS.seq ?_
  refine CS.seq ?_
  refine CS.region ?_
  refine RS.q rfl (QO.eql (by rfl) (by rfl)) ?_
  refine RS.q rfl (QO.assign) ?_
  refine RS.nil ?_
  refine thenC_n ?_
  refine CS.condF (by rfl) rfl ?_
  refine CS.seq ?_
  refine CS.region ?_
  refine RS.q rfl (QO.eql (by rfl) (by rfl)) ?_
  refine RS.q rfl (QO.assign) ?_
  refine RS.nil ?_
  refine thenC_n ?_
  refine CS.condF (by rfl) rfl ?_
  refine CS.seq ?_
  refine CS.region ?_
  refine RS.q rfl (QO.eql (by rfl) (by rfl)) ?_
  refine RS.q rfl (QO.assign) ?_
  refine RS.nil ?_
  refine thenC_n ?_
  refine CS.condT (by rfl) rfl ?_
  refine CS.skip ?_
  refine thenC_n ?_
  refine CS.condT (by rfl) rfl ?_
  refine CS.block ?_
  refine CS.seq ?_
  refine CS.region ?_
  refine RS.q rfl (QO.move) ?_
  refine RS.q rfl (QO.leq (by rfl) (by rfl)) ?_
  refine RS.q rfl (QO.move) ?_
  refine RS.on (dj := 52) rfl (congrArg Value.bool rfl) ?_
  refine RS.q rfl (QO.move) ?_
  refine RS.on (dj := 52) rfl (congrArg Value.bool rfl) ?_
  refine RS.call rfl (by rfl) ok164 (by rfl) (fun w ho => hasP _ _ _ _) ?_
  rintro _ _ ⟨rfl, rfl⟩
  refine RS.q rfl (QO.pickT (by rfl) rfl (by rfl)) ?_
  refine RS.q rfl (QO.assign) ?_
  refine RS.nil ?_
  refine thenC_n ?_
  refine CS.condF (by rfl) rfl ?_
  refine CS.seq ?_
  refine CS.region ?_
  refine RS.q rfl (QO.move) ?_
  refine RS.q rfl (QO.leq (by rfl) (by rfl)) ?_
  refine RS.q rfl (QO.move) ?_
  refine RS.on (dj := 61) rfl (congrArg Value.bool rfl) ?_
  refine RS.q rfl (QO.move) ?_
  refine RS.on (dj := 61) rfl (congrArg Value.bool rfl) ?_
  refine RS.call rfl (by rfl) ok164 (by rfl) (fun w ho => hasP _ _ _ _) ?_
  rintro _ _ ⟨rfl, rfl⟩
  refine RS.q rfl (QO.pickT (by rfl) rfl (by rfl)) ?_
  refine RS.q rfl (QO.assign) ?_
  refine RS.nil ?_
  refine thenC_n ?_
  refine CS.condF (by rfl) rfl ?_
  refine CS.seq ?_
  refine CS.region ?_
  refine RS.q rfl (QO.move) ?_
  refine RS.q rfl (QO.leq (by rfl) (by rfl)) ?_
  refine RS.q rfl (QO.move) ?_
  refine RS.on (dj := 70) rfl (congrArg Value.bool rfl) ?_
  refine RS.q rfl (QO.move) ?_
  refine RS.on (dj := 70) rfl (congrArg Value.bool rfl) ?_
  refine RS.call rfl (by rfl) ok164 (by rfl) (fun w ho => hasP _ _ _ _) ?_
  rintro _ _ ⟨rfl, rfl⟩
  refine RS.q rfl (QO.pickT (by rfl) rfl (by rfl)) ?_
  refine RS.q rfl (QO.assign) ?_
  refine RS.nil ?_
  refine thenC_n ?_
  refine CS.condT (by rfl) rfl ?_
  refine CS.seq ?_
  refine CS.region ?_
  refine RS.q rfl (QO.move) ?_
  refine RS.q rfl (QO.cutStrHi Tryd.underlying9 (by rfl) (by rfl) (by decide) (by decide)) ?_
  refine RS.q rfl (QO.assign) ?_
  refine RS.nil ?_
  refine thenC_n ?_
  refine CS.ret ?_
  refine blockC_r ?_
  refine blockC_r ?_
  refine thenC_r ?_
  refine retQ.mk (H' := []) (.inr rfl) (RVs.tmp (by rfl) RVs.nil) (List.nil_sublist _) ?_
  exact ⟨by rfl, rfl⟩

set_option maxRecDepth 100000 in
theorem mul64_3 (W : World) : Fn_ Tryd.prog 211 #[.int .u64 1, .int .u64 3] W (fun v H => v = .tuple #[.int .u64 0, .int .u64 3] ∧ H = []) := by
  refine Fn_.intro Tryd.func211 rfl rfl (by rfl) ?_
  refine CS.seq ?_
  refine CS.region ?_
  refine RS.q rfl (QO.assign) ?_
  refine RS.q rfl (QO.assign) ?_
  refine RS.nil ?_
  refine thenC_n ?_
  refine CS.seq ?_
  refine CS.region ?_
  refine RS.q rfl (QO.move) ?_
  refine RS.q rfl (QO.ibin (by rfl) (by rfl) trivial) ?_
  refine RS.q rfl (QO.assign) ?_
  refine RS.nil ?_
  refine thenC_n ?_
  refine CS.seq ?_
  refine CS.region ?_
  refine RS.q rfl (QO.move) ?_
  refine RS.q rfl (QO.ibin (by rfl) (by rfl) (show (0:Int) ≤ _ by omega)) ?_
  refine RS.q rfl (QO.assign) ?_
  refine RS.nil ?_
  refine thenC_n ?_
  refine CS.seq ?_
  refine CS.region ?_
  refine RS.q rfl (QO.move) ?_
  refine RS.q rfl (QO.ibin (by rfl) (by rfl) trivial) ?_
  refine RS.q rfl (QO.assign) ?_
  refine RS.nil ?_
  refine thenC_n ?_
  refine CS.seq ?_
  refine CS.region ?_
  refine RS.q rfl (QO.move) ?_
  refine RS.q rfl (QO.ibin (by rfl) (by rfl) (show (0:Int) ≤ _ by omega)) ?_
  refine RS.q rfl (QO.assign) ?_
  refine RS.nil ?_
  refine thenC_n ?_
  refine CS.seq ?_
  refine CS.region ?_
  refine RS.q rfl (QO.move) ?_
  refine RS.q rfl (QO.move) ?_
  refine RS.q rfl (QO.ibin (by rfl) (by rfl) trivial) ?_
  refine RS.q rfl (QO.assign) ?_
  refine RS.nil ?_
  refine thenC_n ?_
  refine CS.seq ?_
  refine CS.region ?_
  refine RS.q rfl (QO.move) ?_
  refine RS.q rfl (QO.move) ?_
  refine RS.q rfl (QO.ibin (by rfl) (by rfl) trivial) ?_
  refine RS.q rfl (QO.move) ?_
  refine RS.q rfl (QO.ibin (by rfl) (by rfl) (show (0:Int) ≤ _ by omega)) ?_
  refine RS.q rfl (QO.ibin (by rfl) (by rfl) trivial) ?_
  refine RS.q rfl (QO.assign) ?_
  refine RS.nil ?_
  refine thenC_n ?_
  refine CS.seq ?_
  refine CS.region ?_
  refine RS.q rfl (QO.move) ?_
  refine RS.q rfl (QO.ibin (by rfl) (by rfl) trivial) ?_
  refine RS.q rfl (QO.assign) ?_
  refine RS.nil ?_
  refine thenC_n ?_
  refine CS.seq ?_
  refine CS.region ?_
  refine RS.q rfl (QO.move) ?_
  refine RS.q rfl (QO.ibin (by rfl) (by rfl) (show (0:Int) ≤ _ by omega)) ?_
  refine RS.q rfl (QO.assign) ?_
  refine RS.nil ?_
  refine thenC_n ?_
  refine CS.seq ?_
  refine CS.region ?_
  refine RS.q rfl (QO.move) ?_
  refine RS.q rfl (QO.move) ?_
  refine RS.q rfl (QO.move) ?_
  refine RS.q rfl (QO.ibin (by rfl) (by rfl) trivial) ?_
  refine RS.q rfl (QO.ibin (by rfl) (by rfl) trivial) ?_
  refine RS.q rfl (QO.assign) ?_
  refine RS.nil ?_
  refine thenC_n ?_
  refine CS.seq ?_
  refine CS.region ?_
  refine RS.q rfl (QO.move) ?_
  refine RS.q rfl (QO.move) ?_
  refine RS.q rfl (QO.ibin (by rfl) (by rfl) trivial) ?_
  refine RS.q rfl (QO.move) ?_
  refine RS.q rfl (QO.ibin (by rfl) (by rfl) trivial) ?_
  refine RS.q rfl (QO.move) ?_
  refine RS.q rfl (QO.ibin (by rfl) (by rfl) (show (0:Int) ≤ _ by omega)) ?_
  refine RS.q rfl (QO.ibin (by rfl) (by rfl) trivial) ?_
  refine RS.q rfl (QO.assign) ?_
  refine RS.nil ?_
  refine thenC_n ?_
  refine CS.seq ?_
  refine CS.region ?_
  refine RS.q rfl (QO.move) ?_
  refine RS.q rfl (QO.move) ?_
  refine RS.q rfl (QO.ibin (by rfl) (by rfl) trivial) ?_
  refine RS.q rfl (QO.assign) ?_
  refine RS.nil ?_
  refine thenC_n ?_
  refine CS.ret ?_
  refine retQ.mk (H' := []) (.inr rfl) (RVs.tmp (by rfl) (RVs.tmp (by rfl) RVs.nil)) (List.nil_sublist _) ?_
  exact ⟨by rfl, rfl⟩

set_option maxRecDepth 100000 in
theorem mul_3 (W : World) : Fn_ Tryd.prog 163 #[.int .u64 1, .int .u64 3] W (fun v H => v = .tuple #[.int .u64 0, .int .u64 3] ∧ H = []) := by
  refine Fn_.intro Tryd.func163 rfl rfl (by rfl) ?_
  refine CS.seq ?_
  refine CS.region ?_
  refine RS.q rfl (QO.assign) ?_
  refine RS.q rfl (QO.assign) ?_
  refine RS.nil ?_
  refine thenC_n ?_
  refine CS.seq ?_
  refine CS.condF (by rfl) rfl ?_
  refine CS.skip ?_
  refine thenC_n ?_
  refine CS.seq ?_
  refine CS.region ?_
  refine RS.q rfl (QO.move) ?_
  refine RS.q rfl (QO.move) ?_
  refine RS.call rfl (by rfl) ok211 (by rfl) (fun w ho => mul64_3 _) ?_
  rintro _ _ ⟨rfl, rfl⟩
  refine RS.q rfl (QO.move) ?_
  refine RS.q rfl (QO.extract (by rfl) (by rfl)) ?_
  refine RS.q rfl (QO.extract (by rfl) (by rfl)) ?_
  refine RS.q rfl (QO.assign) ?_
  refine RS.q rfl (QO.assign) ?_
  refine RS.nil ?_
  refine thenC_n ?_
  refine CS.seq ?_
  refine CS.region ?_
  refine RS.q rfl (QO.move) ?_
  refine RS.q rfl (QO.move) ?_
  refine RS.q rfl (QO.assign) ?_
  refine RS.q rfl (QO.assign) ?_
  refine RS.nil ?_
  refine thenC_n ?_
  refine CS.ret ?_
  refine retQ.mk (H' := []) (.inr rfl) (RVs.tmp (by rfl) (RVs.tmp (by rfl) RVs.nil)) (List.nil_sublist _) ?_
  exact ⟨rfl, rfl⟩

set_option maxHeartbeats 4000000 in
set_option maxRecDepth 100000 in
theorem rep3 (W : World) : Fn_ Tryd.prog 139 #[sv [48], iv 3] W (fun v H => v = sv (List.replicate 3 48) ∧ H = []) := by
  refine Fn_.intro Tryd.func139 rfl rfl (by rfl) ?_
  refine CS.seq ?_
  refine CS.region ?_
  refine RS.q rfl (QO.assign) ?_
  refine RS.nil ?_
  refine thenC_n ?_
  refine CS.seq ?_
  refine CS.seq ?_
  refine CS.region ?_
  refine RS.q rfl (QO.move) ?_
  refine RS.nil ?_
  refine thenC_n ?_
  refine CS.block ?_
  refine CS.seq ?_
  refine CS.region ?_
  refine RS.q rfl (QO.eql (by rfl) (by rfl)) ?_
  refine RS.q rfl (QO.assign) ?_
  refine RS.nil ?_
  refine thenC_n ?_
  refine CS.condF (by rfl) rfl ?_
  refine CS.seq ?_
  refine CS.region ?_
  refine RS.q rfl (QO.eql (by rfl) (by rfl)) ?_
  refine RS.q rfl (QO.assign) ?_
  refine RS.nil ?_
  refine thenC_n ?_
  refine CS.condF (by rfl) rfl ?_
  refine CS.skip ?_
  refine blockC_n ?_
  refine thenC_n ?_
  refine CS.seq ?_
  refine CS.seq ?_
  refine CS.region ?_
  refine RS.q rfl (QO.move) ?_
  refine RS.q rfl (QO.lss (by rfl) (by rfl)) ?_
  refine RS.nil ?_
  refine thenC_n ?_
  refine CS.condF (by rfl) rfl ?_
  refine CS.skip ?_
  refine thenC_n ?_
  refine CS.seq ?_
  refine CS.region ?_
  refine RS.q rfl (QO.move) ?_
  refine RS.q rfl (QO.lenStr Tryd.underlying9 (by rfl)) ?_
  refine RS.qv rfl (QO.conv_int Tryd.underlying3 Tryd.underlying194 (by rfl)) (show _ = Value.int .u64 1 from rfl) ?_
  refine RS.q rfl (QO.move) ?_
  refine RS.qv rfl (QO.conv_int Tryd.underlying3 Tryd.underlying194 (by rfl)) (show _ = Value.int .u64 3 from rfl) ?_
  refine RS.call rfl (by rfl) ok163 (by rfl) (fun w ho => mul_3 _) ?_
  rintro _ _ ⟨rfl, rfl⟩
  refine RS.q rfl (QO.move) ?_
  refine RS.q rfl (QO.extract (by rfl) (by rfl)) ?_
  refine RS.q rfl (QO.extract (by rfl) (by rfl)) ?_
  refine RS.q rfl (QO.assign) ?_
  refine RS.q rfl (QO.assign) ?_
  refine RS.nil ?_
  refine thenC_n ?_
  refine CS.seq ?_
  refine CS.seq ?_
  refine CS.region ?_
  refine RS.q rfl (QO.move) ?_
  refine RS.q rfl (QO.gtr (by rfl) (by rfl)) ?_
  refine RS.q rfl (QO.move) ?_
  refine RS.on (dj := 31) rfl (congrArg Value.bool rfl) ?_
  refine RS.q rfl (QO.move) ?_
  refine RS.on (dj := 31) rfl (congrArg Value.bool rfl) ?_
  refine RS.q rfl (QO.gtr (by rfl) (by rfl)) ?_
  refine RS.q rfl (QO.pickF (by rfl) rfl (by rfl)) ?_
  refine RS.nil ?_
  refine thenC_n ?_
  refine CS.condF (by rfl) rfl ?_
  refine CS.skip ?_
  refine thenC_n ?_
  refine CS.seq ?_
  refine CS.region ?_
  refine RS.q rfl (QO.move) ?_
  refine RS.qv rfl (QO.conv_int Tryd.underlying194 Tryd.underlying3 (by rfl)) (show _ = iv 3 from rfl) ?_
  refine RS.q rfl (QO.assign) ?_
  refine RS.nil ?_
  refine thenC_n ?_
  refine CS.seq ?_
  refine CS.seq ?_
  refine CS.region ?_
  refine RS.q rfl (QO.move) ?_
  refine RS.q rfl (QO.lenStr Tryd.underlying9 (by rfl)) ?_
  refine RS.q rfl (QO.eql (by rfl) (by rfl)) ?_
  refine RS.nil ?_
  refine thenC_n ?_
  refine CS.condF (by rfl) rfl ?_
  refine CS.skip ?_
  refine thenC_n ?_
  refine CS.seq ?_
  refine CS.seq ?_
  refine CS.region ?_
  refine RS.q rfl (QO.move) ?_
  refine RS.q rfl (QO.idxStr (b := 48) Tryd.underlying9 (by rfl) (by rfl) (by decide) (by rfl)) ?_
  refine RS.nil ?_
  refine thenC_n ?_
  refine CS.block ?_
  refine CS.seq ?_
  refine CS.seq ?_
  refine CS.region ?_
  refine RS.q rfl (QO.eql (by rfl) (by rfl)) ?_
  refine RS.q rfl (QO.assign) ?_
  refine RS.nil ?_
  refine thenC_n ?_
  refine CS.condF (by rfl) rfl ?_
  refine CS.seq ?_
  refine CS.region ?_
  refine RS.q rfl (QO.eql (by rfl) (by rfl)) ?_
  refine RS.q rfl (QO.assign) ?_
  refine RS.nil ?_
  refine thenC_n ?_
  refine CS.condF (by rfl) rfl ?_
  refine CS.seq ?_
  refine CS.region ?_
  refine RS.q rfl (QO.eql (by rfl) (by rfl)) ?_
  refine RS.q rfl (QO.assign) ?_
  refine RS.nil ?_
  refine thenC_n ?_
  refine CS.condT (by rfl) rfl ?_
  refine CS.skip ?_
  refine thenC_n ?_
  refine CS.condT (by rfl) rfl ?_
  refine CS.block ?_
  refine CS.seq ?_
  refine CS.region ?_
  refine RS.q rfl (QO.move) ?_
  refine RS.q rfl (QO.leq (by rfl) (by rfl)) ?_
  refine RS.q rfl (QO.move) ?_
  refine RS.on (dj := 52) rfl (congrArg Value.bool rfl) ?_
  refine RS.q rfl (QO.move) ?_
  refine RS.on (dj := 52) rfl (congrArg Value.bool rfl) ?_
  refine RS.call rfl (by rfl) ok164 (by rfl) (fun w ho => hasP _ _ _ _) ?_
  rintro _ _ ⟨rfl, rfl⟩
  refine RS.q rfl (QO.pickT (by rfl) rfl (by rfl)) ?_
  refine RS.q rfl (QO.assign) ?_
  refine RS.nil ?_
  refine thenC_n ?_
  refine CS.condF (by rfl) rfl ?_
  refine CS.seq ?_
  refine CS.region ?_
  refine RS.q rfl (QO.move) ?_
  refine RS.q rfl (QO.leq (by rfl) (by rfl)) ?_
  refine RS.q rfl (QO.move) ?_
  refine RS.on (dj := 61) rfl (congrArg Value.bool rfl) ?_
  refine RS.q rfl (QO.move) ?_
  refine RS.on (dj := 61) rfl (congrArg Value.bool rfl) ?_
  refine RS.call rfl (by rfl) ok164 (by rfl) (fun w ho => hasP _ _ _ _) ?_
  rintro _ _ ⟨rfl, rfl⟩
  refine RS.q rfl (QO.pickT (by rfl) rfl (by rfl)) ?_
  refine RS.q rfl (QO.assign) ?_
  refine RS.nil ?_
  refine thenC_n ?_
  refine CS.condF (by rfl) rfl ?_
  refine CS.seq ?_
  refine CS.region ?_
  refine RS.q rfl (QO.move) ?_
  refine RS.q rfl (QO.leq (by rfl) (by rfl)) ?_
  refine RS.q rfl (QO.move) ?_
  refine RS.on (dj := 70) rfl (congrArg Value.bool rfl) ?_
  refine RS.q rfl (QO.move) ?_
  refine RS.on (dj := 70) rfl (congrArg Value.bool rfl) ?_
  refine RS.call rfl (by rfl) ok164 (by rfl) (fun w ho => hasP _ _ _ _) ?_
  rintro _ _ ⟨rfl, rfl⟩
  refine RS.q rfl (QO.pickT (by rfl) rfl (by rfl)) ?_
  refine RS.q rfl (QO.assign) ?_
  refine RS.nil ?_
  refine thenC_n ?_
  refine CS.condT (by rfl) rfl ?_
  refine CS.seq ?_
  refine CS.region ?_
  refine RS.q rfl (QO.move) ?_
  refine RS.q rfl (QO.cutStrHi Tryd.underlying9 (by rfl) (by rfl) (by decide) (by decide)) ?_
  refine RS.q rfl (QO.assign) ?_
  refine RS.nil ?_
  refine thenC_n ?_
  refine CS.ret ?_
  refine blockC_r ?_
  refine blockC_r ?_
  refine thenC_r ?_
  refine retQ.mk (H' := []) (.inr rfl) (RVs.tmp (by rfl) RVs.nil) (List.nil_sublist _) ?_
  exact ⟨by rfl, rfl⟩

set_option maxRecDepth 100000 in
theorem mul64_4 (W : World) : Fn_ Tryd.prog 211 #[.int .u64 1, .int .u64 4] W (fun v H => v = .tuple #[.int .u64 0, .int .u64 4] ∧ H = []) := by
  refine Fn_.intro Tryd.func211 rfl rfl (by rfl) ?_
  refine CS.seq ?_
  refine CS.region ?_
  refine RS.q rfl (QO.assign) ?_
  refine RS.q rfl (QO.assign) ?_
  refine RS.nil ?_
  refine thenC_n ?_
  refine CS.seq ?_
  refine CS.region ?_
  refine RS.q rfl (QO.move) ?_
  refine RS.q rfl (QO.ibin (by rfl) (by rfl) trivial) ?_
  refine RS.q rfl (QO.assign) ?_
  refine RS.nil ?_
  refine thenC_n ?_
  refine CS.seq ?_
  refine CS.region ?_
  refine RS.q rfl (QO.move) ?_
  refine RS.q rfl (QO.ibin (by rfl) (by rfl) (show (0:Int) ≤ _ by omega)) ?_
  refine RS.q rfl (QO.assign) ?_
  refine RS.nil ?_
  refine thenC_n ?_
  refine CS.seq ?_
  refine CS.region ?_
  refine RS.q rfl (QO.move) ?_
  refine RS.q rfl (QO.ibin (by rfl) (by rfl) trivial) ?_
  refine RS.q rfl (QO.assign) ?_
  refine RS.nil ?_
  refine thenC_n ?_
  refine CS.seq ?_
  refine CS.region ?_
  refine RS.q rfl (QO.move) ?_
  refine RS.q rfl (QO.ibin (by rfl) (by rfl) (show (0:Int) ≤ _ by omega)) ?_
  refine RS.q rfl (QO.assign) ?_
  refine RS.nil ?_
  refine thenC_n ?_
  refine CS.seq ?_
  refine CS.region ?_
  refine RS.q rfl (QO.move) ?_
  refine RS.q rfl (QO.move) ?_
  refine RS.q rfl (QO.ibin (by rfl) (by rfl) trivial) ?_
  refine RS.q rfl (QO.assign) ?_
  refine RS.nil ?_
  refine thenC_n ?_
  refine CS.seq ?_
  refine CS.region ?_
  refine RS.q rfl (QO.move) ?_
  refine RS.q rfl (QO.move) ?_
  refine RS.q rfl (QO.ibin (by rfl) (by rfl) trivial) ?_
  refine RS.q rfl (QO.move) ?_
  refine RS.q rfl (QO.ibin (by rfl) (by rfl) (show (0:Int) ≤ _ by omega)) ?_
  refine RS.q rfl (QO.ibin (by rfl) (by rfl) trivial) ?_
  refine RS.q rfl (QO.assign) ?_
  refine RS.nil ?_
  refine thenC_n ?_
  refine CS.seq ?_
  refine CS.region ?_
  refine RS.q rfl (QO.move) ?_
  refine RS.q rfl (QO.ibin (by rfl) (by rfl) trivial) ?_
  refine RS.q rfl (QO.assign) ?_
  refine RS.nil ?_
  refine thenC_n ?_
  refine CS.seq ?_
  refine CS.region ?_
  refine RS.q rfl (QO.move) ?_
  refine RS.q rfl (QO.ibin (by rfl) (by rfl) (show (0:Int) ≤ _ by omega)) ?_
  refine RS.q rfl (QO.assign) ?_
  refine RS.nil ?_
  refine thenC_n ?_
  refine CS.seq ?_
  refine CS.region ?_
  refine RS.q rfl (QO.move) ?_
  refine RS.q rfl (QO.move) ?_
  refine RS.q rfl (QO.move) ?_
  refine RS.q rfl (QO.ibin (by rfl) (by rfl) trivial) ?_
  refine RS.q rfl (QO.ibin (by rfl) (by rfl) trivial) ?_
  refine RS.q rfl (QO.assign) ?_
  refine RS.nil ?_
  refine thenC_n ?_
  refine CS.seq ?_
  refine CS.region ?_
  refine RS.q rfl (QO.move) ?_
  refine RS.q rfl (QO.move) ?_
  refine RS.q rfl (QO.ibin (by rfl) (by rfl) trivial) ?_
  refine RS.q rfl (QO.move) ?_
  refine RS.q rfl (QO.ibin (by rfl) (by rfl) trivial) ?_
  refine RS.q rfl (QO.move) ?_
  refine RS.q rfl (QO.ibin (by rfl) (by rfl) (show (0:Int) ≤ _ by omega)) ?_
  refine RS.q rfl (QO.ibin (by rfl) (by rfl) trivial) ?_
  refine RS.q rfl (QO.assign) ?_
  refine RS.nil ?_
  refine thenC_n ?_
  refine CS.seq ?_
  refine CS.region ?_
  refine RS.q rfl (QO.move) ?_
  refine RS.q rfl (QO.move) ?_
  refine RS.q rfl (QO.ibin (by rfl) (by rfl) trivial) ?_
  refine RS.q rfl (QO.assign) ?_
  refine RS.nil ?_
  refine thenC_n ?_
  refine CS.ret ?_
  refine retQ.mk (H' := []) (.inr rfl) (RVs.tmp (by rfl) (RVs.tmp (by rfl) RVs.nil)) (List.nil_sublist _) ?_
  exact ⟨by rfl, rfl⟩

set_option maxRecDepth 100000 in
theorem mul_4 (W : World) : Fn_ Tryd.prog 163 #[.int .u64 1, .int .u64 4] W (fun v H => v = .tuple #[.int .u64 0, .int .u64 4] ∧ H = []) := by
  refine Fn_.intro Tryd.func163 rfl rfl (by rfl) ?_
  refine CS.seq ?_
  refine CS.region ?_
  refine RS.q rfl (QO.assign) ?_
  refine RS.q rfl (QO.assign) ?_
  refine RS.nil ?_
  refine thenC_n ?_
  refine CS.seq ?_
  refine CS.condF (by rfl) rfl ?_
  refine CS.skip ?_
  refine thenC_n ?_
  refine CS.seq ?_
  refine CS.region ?_
  refine RS.q rfl (QO.move) ?_
  refine RS.q rfl (QO.move) ?_
  refine RS.call rfl (by rfl) ok211 (by rfl) (fun w ho => mul64_4 _) ?_
  rintro _ _ ⟨rfl, rfl⟩
  refine RS.q rfl (QO.move) ?_
  refine RS.q rfl (QO.extract (by rfl) (by rfl)) ?_
  refine RS.q rfl (QO.extract (by rfl) (by rfl)) ?_
  refine RS.q rfl (QO.assign) ?_
  refine RS.q rfl (QO.assign) ?_
  refine RS.nil ?_
  refine thenC_n ?_
  refine CS.seq ?_
  refine CS.region ?_
  refine RS.q rfl (QO.move) ?_
  refine RS.q rfl (QO.move) ?_
  refine RS.q rfl (QO.assign) ?_
  refine RS.q rfl (QO.assign) ?_
  refine RS.nil ?_
  refine thenC_n ?_
  refine CS.ret ?_
  refine retQ.mk (H' := []) (.inr rfl) (RVs.tmp (by rfl) (RVs.tmp (by rfl) RVs.nil)) (List.nil_sublist _) ?_
  exact ⟨rfl, rfl⟩

set_option maxHeartbeats 4000000 in
set_option maxRecDepth 100000 in
theorem rep4 (W : World) : Fn_ Tryd.prog 139 #[sv [48], iv 4] W (fun v H => v = sv (List.replicate 4 48) ∧ H = []) := by
  refine Fn_.intro Tryd.func139 rfl rfl (by rfl) ?_
  refine CS.seq ?_
  refine CS.region ?_
  refine RS.q rfl (QO.assign) ?_
  refine RS.nil ?_
  refine thenC_n ?_
  refine CS.seq ?_
  refine CS.seq ?_
  refine CS.region ?_
  refine RS.q rfl (QO.move) ?_
  refine RS.nil ?_
  refine thenC_n ?_
  refine CS.block ?_
  refine CS.seq ?_
  refine CS.region ?_
  refine RS.q rfl (QO.eql (by rfl) (by rfl)) ?_
  refine RS.q rfl (QO.assign) ?_
  refine RS.nil ?_
  refine thenC_n ?_
  refine CS.condF (by rfl) rfl ?_
  refine CS.seq ?_
  refine CS.region ?_
  refine RS.q rfl (QO.eql (by rfl) (by rfl)) ?_
  refine RS.q rfl (QO.assign) ?_
  refine RS.nil ?_
  refine thenC_n ?_
  refine CS.condF (by rfl) rfl ?_
  refine CS.skip ?_
  refine blockC_n ?_
  refine thenC_n ?_
  refine CS.seq ?_
  refine CS.seq ?_
  refine CS.region ?_
  refine RS.q rfl (QO.move) ?_
  refine RS.q rfl (QO.lss (by rfl) (by rfl)) ?_
  refine RS.nil ?_
  refine thenC_n ?_
  refine CS.condF (by rfl) rfl ?_
  refine CS.skip ?_
  refine thenC_n ?_
  refine CS.seq ?_
  refine CS.region ?_
  refine RS.q rfl (QO.move) ?_
  refine RS.q rfl (QO.lenStr Tryd.underlying9 (by rfl)) ?_
  refine RS.qv rfl (QO.conv_int Tryd.underlying3 Tryd.underlying194 (by rfl)) (show _ = Value.int .u64 1 from rfl) ?_
  refine RS.q rfl (QO.move) ?_
  refine RS.qv rfl (QO.conv_int Tryd.underlying3 Tryd.underlying194 (by rfl)) (show _ = Value.int .u64 4 from rfl) ?_
  refine RS.call rfl (by rfl) ok163 (by rfl) (fun w ho => mul_4 _) ?_
  rintro _ _ ⟨rfl, rfl⟩
  refine RS.q rfl (QO.move) ?_
  refine RS.q rfl (QO.extract (by rfl) (by rfl)) ?_
  refine RS.q rfl (QO.extract (by rfl) (by rfl)) ?_
  refine RS.q rfl (QO.assign) ?_
  refine RS.q rfl (QO.assign) ?_
  refine RS.nil ?_
  refine thenC_n ?_
  refine CS.seq ?_
  refine CS.seq ?_
  refine CS.region ?_
  refine RS.q rfl (QO.move) ?_
  refine RS.q rfl (QO.gtr (by rfl) (by rfl)) ?_
  refine RS.q rfl (QO.move) ?_
  refine RS.on (dj := 31) rfl (congrArg Value.bool rfl) ?_
  refine RS.q rfl (QO.move) ?_
  refine RS.on (dj := 31) rfl (congrArg Value.bool rfl) ?_
  refine RS.q rfl (QO.gtr (by rfl) (by rfl)) ?_
  refine RS.q rfl (QO.pickF (by rfl) rfl (by rfl)) ?_
  refine RS.nil ?_
  refine thenC_n ?_
  refine CS.condF (by rfl) rfl ?_
  refine CS.skip ?_
  refine thenC_n ?_
  refine CS.seq ?_
  refine CS.region ?_
  refine RS.q rfl (QO.move) ?_
  refine RS.qv rfl (QO.conv_int Tryd.underlying194 Tryd.underlying3 (by rfl)) (show _ = iv 4 from rfl) ?_
  refine RS.q rfl (QO.assign) ?_
  refine RS.nil ?_
  refine thenC_n ?_
  refine CS.seq ?_
  refine CS.seq ?_
  refine CS.region ?_
  refine RS.q rfl (QO.move) ?_
  refine RS.q rfl (QO.lenStr Tryd.underlying9 (by rfl)) ?_
  refine RS.q rfl (QO.eql (by rfl) (by rfl)) ?_
  refine RS.nil ?_
  refine thenC_n ?_
  refine CS.condF (by rfl) rfl ?_
  refine CS.skip ?_
  refine thenC_n ?_
  refine CS.seq ?_
  refine CS.seq ?_
  refine CS.region ?_
  refine RS.q rfl (QO.move) ?_
  refine RS.q rfl (QO.idxStr (b := 48) Tryd.underlying9 (by rfl) (by rfl) (by decide) (by rfl)) ?_
  refine RS.nil ?_
  refine thenC_n ?_
  refine CS.block ?_
  refine CS.seq ?_
  refine CS.seq ?_
  refine CS.region ?_
  refine RS.q rfl (QO.eql (by rfl) (by rfl)) ?_
  refine RS.q rfl (QO.assign) ?_
  refine RS.nil ?_
  refine thenC_n ?_
  refine CS.condF (by rfl) rfl ?_
  refine CS.seq ?_
  refine CS.region ?_
  refine RS.q rfl (QO.eql (by rfl) (by rfl)) ?_
  refine RS.q rfl (QO.assign) ?_
  refine RS.nil ?_
  refine thenC_n ?_
  refine CS.condF (by rfl) rfl ?_
  refine CS.seq ?_
  refine CS.region ?_
  refine RS.q rfl (QO.eql (by rfl) (by rfl)) ?_
  refine RS.q rfl (QO.assign) ?_
  refine RS.nil ?_
  refine thenC_n ?_
  refine CS.condT (by rfl) rfl ?_
  refine CS.skip ?_
  refine thenC_n ?_
  refine CS.condT (by rfl) rfl ?_
  refine CS.block ?_
  refine CS.seq ?_
  refine CS.region ?_
  refine RS.q rfl (QO.move) ?_
  refine RS.q rfl (QO.leq (by rfl) (by rfl)) ?_
  refine RS.q rfl (QO.move) ?_
  refine RS.on (dj := 52) rfl (congrArg Value.bool rfl) ?_
  refine RS.q rfl (QO.move) ?_
  refine RS.on (dj := 52) rfl (congrArg Value.bool rfl) ?_
  refine RS.call rfl (by rfl) ok164 (by rfl) (fun w ho => hasP _ _ _ _) ?_
  rintro _ _ ⟨rfl, rfl⟩
  refine RS.q rfl (QO.pickT (by rfl) rfl (by rfl)) ?_
  refine RS.q rfl (QO.assign) ?_
  refine RS.nil ?_
  refine thenC_n ?_
  refine CS.condF (by rfl) rfl ?_
  refine CS.seq ?_
  refine CS.region ?_
  refine RS.q rfl (QO.move) ?_
  refine RS.q rfl (QO.leq (by rfl) (by rfl)) ?_
  refine RS.q rfl (QO.move) ?_
  refine RS.on (dj := 61) rfl (congrArg Value.bool rfl) ?_
  refine RS.q rfl (QO.move) ?_
  refine RS.on (dj := 61) rfl (congrArg Value.bool rfl) ?_
  refine RS.call rfl (by rfl) ok164 (by rfl) (fun w ho => hasP _ _ _ _) ?_
  rintro _ _ ⟨rfl, rfl⟩
  refine RS.q rfl (QO.pickT (by rfl) rfl (by rfl)) ?_
  refine RS.q rfl (QO.assign) ?_
  refine RS.nil ?_
  refine thenC_n ?_
  refine CS.condF (by rfl) rfl ?_
  refine CS.seq ?_
  refine CS.region ?_
  refine RS.q rfl (QO.move) ?_
  refine RS.q rfl (QO.leq (by rfl) (by rfl)) ?_
  refine RS.q rfl (QO.move) ?_
  refine RS.on (dj := 70) rfl (congrArg Value.bool rfl) ?_
  refine RS.q rfl (QO.move) ?_
  refine RS.on (dj := 70) rfl (congrArg Value.bool rfl) ?_
  refine RS.call rfl (by rfl) ok164 (by rfl) (fun w ho => hasP _ _ _ _) ?_
  rintro _ _ ⟨rfl, rfl⟩
  refine RS.q rfl (QO.pickT (by rfl) rfl (by rfl)) ?_
  refine RS.q rfl (QO.assign) ?_
  refine RS.nil ?_
  refine thenC_n ?_
  refine CS.condT (by rfl) rfl ?_
  refine CS.seq ?_
  refine CS.region ?_
  refine RS.q rfl (QO.move) ?_
  refine RS.q rfl (QO.cutStrHi Tryd.underlying9 (by rfl) (by rfl) (by decide) (by decide)) ?_
  refine RS.q rfl (QO.assign) ?_
  refine RS.nil ?_
  refine thenC_n ?_
  refine CS.ret ?_
  refine blockC_r ?_
  refine blockC_r ?_
  refine thenC_r ?_
  refine retQ.mk (H' := []) (.inr rfl) (RVs.tmp (by rfl) RVs.nil) (List.nil_sublist _) ?_
  exact ⟨by rfl, rfl⟩

set_option maxRecDepth 100000 in
theorem mul64_5 (W : World) : Fn_ Tryd.prog 211 #[.int .u64 1, .int .u64 5] W (fun v H => v = .tuple #[.int .u64 0, .int .u64 5] ∧ H = []) := by
  refine Fn_.intro Tryd.func211 rfl rfl (by rfl) ?_
  refine CS.seq ?_
  refine CS.region ?_
  refine RS.q rfl (QO.assign) ?_
  refine RS.q rfl (QO.assign) ?_
  refine RS.nil ?_
  refine thenC_n ?_
  refine CS.seq ?_
  refine CS.region ?_
  refine RS.q rfl (QO.move) ?_
  refine RS.q rfl (QO.ibin (by rfl) (by rfl) trivial) ?_
  refine RS.q rfl (QO.assign) ?_
  refine RS.nil ?_
  refine thenC_n ?_
  refine CS.seq ?_
  refine CS.region ?_
  refine RS.q rfl (QO.move) ?_
  refine RS.q rfl (QO.ibin (by rfl) (by rfl) (show (0:Int) ≤ _ by omega)) ?_
  refine RS.q rfl (QO.assign) ?_
  refine RS.nil ?_
  refine thenC_n ?_
  refine CS.seq ?_
  refine CS.region ?_
  refine RS.q rfl (QO.move) ?_
  refine RS.q rfl (QO.ibin (by rfl) (by rfl) trivial) ?_
  refine RS.q rfl (QO.assign) ?_
  refine RS.nil ?_
  refine thenC_n ?_
  refine CS.seq ?_
  refine CS.region ?_
  refine RS.q rfl (QO.move) ?_
  refine RS.q rfl (QO.ibin (by rfl) (by rfl) (show (0:Int) ≤ _ by omega)) ?_
  refine RS.q rfl (QO.assign) ?_
  refine RS.nil ?_
  refine thenC_n ?_
  refine CS.seq ?_
  refine CS.region ?_
  refine RS.q rfl (QO.move) ?_
  refine RS.q rfl (QO.move) ?_
  refine RS.q rfl (QO.ibin (by rfl) (by rfl) trivial) ?_
  refine RS.q rfl (QO.assign) ?_
  refine RS.nil ?_
  refine thenC_n ?_
  refine CS.seq ?_
  refine CS.region ?_
  refine RS.q rfl (QO.move) ?_
  refine RS.q rfl (QO.move) ?_
  refine RS.q rfl (QO.ibin (by rfl) (by rfl) trivial) ?_
  refine RS.q rfl (QO.move) ?_
  refine RS.q rfl (QO.ibin (by rfl) (by rfl) (show (0:Int) ≤ _ by omega)) ?_
  refine RS.q rfl (QO.ibin (by rfl) (by rfl) trivial) ?_
  refine RS.q rfl (QO.assign) ?_
  refine RS.nil ?_
  refine thenC_n ?_
  refine CS.seq ?_
  refine CS.region ?_
  refine RS.q rfl (QO.move) ?_
  refine RS.q rfl (QO.ibin (by rfl) (by rfl) trivial) ?_
  refine RS.q rfl (QO.assign) ?_
  refine RS.nil ?_
  refine thenC_n ?_
  refine CS.seq ?_
  refine CS.region ?_
  refine RS.q rfl (QO.move) ?_
  refine RS.q rfl (QO.ibin (by rfl) (by rfl) (show (0:Int) ≤ _ by omega)) ?_
  refine RS.q rfl (QO.assign) ?_
  refine RS.nil ?_
  refine thenC_n ?_
  refine CS.seq ?_
  refine CS.region ?_
  refine RS.q rfl (QO.move) ?_
  refine RS.q rfl (QO.move) ?_
  refine RS.q rfl (QO.move) ?_
  refine RS.q rfl (QO.ibin (by rfl) (by rfl) trivial) ?_
  refine RS.q rfl (QO.ibin (by rfl) (by rfl) trivial) ?_
  refine RS.q rfl (QO.assign) ?_
  refine RS.nil ?_
  refine thenC_n ?_
  refine CS.seq ?_
  refine CS.region ?_
  refine RS.q rfl (QO.move) ?_
  refine RS.q rfl (QO.move) ?_
  refine RS.q rfl (QO.ibin (by rfl) (by rfl) trivial) ?_
  refine RS.q rfl (QO.move) ?_
  refine RS.q rfl (QO.ibin (by rfl) (by rfl) trivial) ?_
  refine RS.q rfl (QO.move) ?_
  refine RS.q rfl (QO.ibin (by rfl) (by rfl) (show (0:Int) ≤ _ by omega)) ?_
  refine RS.q rfl (QO.ibin (by rfl) (by rfl) trivial) ?_
  refine RS.q rfl (QO.assign) ?_
  refine RS.nil ?_
  refine thenC_n ?_
  refine CS.seq ?_
  refine CS.region ?_
  refine RS.q rfl (QO.move) ?_
  refine RS.q rfl (QO.move) ?_
  refine RS.q rfl (QO.ibin (by rfl) (by rfl) trivial) ?_
  refine RS.q rfl (QO.assign) ?_
  refine RS.nil ?_
  refine thenC_n ?_
  refine CS.ret ?_
  refine retQ.mk (H' := []) (.inr rfl) (RVs.tmp (by rfl) (RVs.tmp (by rfl) RVs.nil)) (List.nil_sublist _) ?_
  exact ⟨by rfl, rfl⟩

set_option maxRecDepth 100000 in
theorem mul_5 (W : World) : Fn_ Tryd.prog 163 #[.int .u64 1, .int .u64 5] W (fun v H => v = .tuple #[.int .u64 0, .int .u64 5] ∧ H = []) := by
  refine Fn_.intro Tryd.func163 rfl rfl (by rfl) ?_
  refine CS.seq ?_
  refine CS.region ?_
  refine RS.q rfl (QO.assign) ?_
  refine RS.q rfl (QO.assign) ?_
  refine RS.nil ?_
  refine thenC_n ?_
  refine CS.seq ?_
  refine CS.condF (by rfl) rfl ?_
  refine CS.skip ?_
  refine thenC_n ?_
  refine CS.seq ?_
  refine CS.region ?_
  refine RS.q rfl (QO.move) ?_
  refine RS.q rfl (QO.move) ?_
  refine RS.call rfl (by rfl) ok211 (by rfl) (fun w ho => mul64_5 _) ?_
  rintro _ _ ⟨rfl, rfl⟩
  refine RS.q rfl (QO.move) ?_
  refine RS.q rfl (QO.extract (by rfl) (by rfl)) ?_
  refine RS.q rfl (QO.extract (by rfl) (by rfl)) ?_
  refine RS.q rfl (QO.assign) ?_
  refine RS.q rfl (QO.assign) ?_
  refine RS.nil ?_
  refine thenC_n ?_
  refine CS.seq ?_
  refine CS.region ?_
  refine RS.q rfl (QO.move) ?_
  refine RS.q rfl (QO.move) ?_
  refine RS.q rfl (QO.assign) ?_
  refine RS.q rfl (QO.assign) ?_
  refine RS.nil ?_
  refine thenC_n ?_
  refine CS.ret ?_
  refine retQ.mk (H' := []) (.inr rfl) (RVs.tmp (by rfl) (RVs.tmp (by rfl) RVs.nil)) (List.nil_sublist _) ?_
  exact ⟨rfl, rfl⟩

set_option maxHeartbeats 4000000 in
set_option maxRecDepth 100000 in
theorem rep5 (W : World) : Fn_ Tryd.prog 139 #[sv [48], iv 5] W (fun v H => v = sv (List.replicate 5 48) ∧ H = []) := by
  refine Fn_.intro Tryd.func139 rfl rfl (by rfl) ?_
  refine CS.seq ?_
  refine CS.region ?_
  refine RS.q rfl (QO.assign) ?_
  refine RS.nil ?_
  refine thenC_n ?_
  refine CS.seq ?_
  refine CS.seq ?_
  refine CS.region ?_
  refine RS.q rfl (QO.move) ?_
  refine RS.nil ?_
  refine thenC_n ?_
  refine CS.block ?_
  refine CS.seq ?_
  refine CS.region ?_
  refine RS.q rfl (QO.eql (by rfl) (by rfl)) ?_
  refine RS.q rfl (QO.assign) ?_
  refine RS.nil ?_
  refine thenC_n ?_
  refine CS.condF (by rfl) rfl ?_
  refine CS.seq ?_
  refine CS.region ?_
  refine RS.q rfl (QO.eql (by rfl) (by rfl)) ?_
  refine RS.q rfl (QO.assign) ?_
  refine RS.nil ?_
  refine thenC_n ?_
  refine CS.condF (by rfl) rfl ?_
  refine CS.skip ?_
  refine blockC_n ?_
  refine thenC_n ?_
  refine CS.seq ?_
  refine CS.seq ?_
  refine CS.region ?_
  refine RS.q rfl (QO.move) ?_
  refine RS.q rfl (QO.lss (by rfl) (by rfl)) ?_
  refine RS.nil ?_
  refine thenC_n ?_
  refine CS.condF (by rfl) rfl ?_
  refine CS.skip ?_
  refine thenC_n ?_
  refine CS.seq ?_
  refine CS.region ?_
  refine RS.q rfl (QO.move) ?_
  refine RS.q rfl (QO.lenStr Tryd.underlying9 (by rfl)) ?_
  refine RS.qv rfl (QO.conv_int Tryd.underlying3 Tryd.underlying194 (by rfl)) (show _ = Value.int .u64 1 from rfl) ?_
  refine RS.q rfl (QO.move) ?_
  refine RS.qv rfl (QO.conv_int Tryd.underlying3 Tryd.underlying194 (by rfl)) (show _ = Value.int .u64 5 from rfl) ?_
  refine RS.call rfl (by rfl) ok163 (by rfl) (fun w ho => mul_5 _) ?_
  rintro _ _ ⟨rfl, rfl⟩
  refine RS.q rfl (QO.move) ?_
  refine RS.q rfl (QO.extract (by rfl) (by rfl)) ?_
  refine RS.q rfl (QO.extract (by rfl) (by rfl)) ?_
  refine RS.q rfl (QO.assign) ?_
  refine RS.q rfl (QO.assign) ?_
  refine RS.nil ?_
  refine thenC_n ?_
  refine CS.seq ?_
  refine CS.seq ?_
  refine CS.region ?_
  refine RS.q rfl (QO.move) ?_
  refine RS.q rfl (QO.gtr (by rfl) (by rfl)) ?_
  refine RS.q rfl (QO.move) ?_
  refine RS.on (dj := 31) rfl (congrArg Value.bool rfl) ?_
  refine RS.q rfl (QO.move) ?_
  refine RS.on (dj := 31) rfl (congrArg Value.bool rfl) ?_
  refine RS.q rfl (QO.gtr (by rfl) (by rfl)) ?_
  refine RS.q rfl (QO.pickF (by rfl) rfl (by rfl)) ?_
  refine RS.nil ?_
  refine thenC_n ?_
  refine CS.condF (by rfl) rfl ?_
  refine CS.skip ?_
  refine thenC_n ?_
  refine CS.seq ?_
  refine CS.region ?_
  refine RS.q rfl (QO.move) ?_
  refine RS.qv rfl (QO.conv_int Tryd.underlying194 Tryd.underlying3 (by rfl)) (show _ = iv 5 from rfl) ?_
  refine RS.q rfl (QO.assign) ?_
  refine RS.nil ?_
  refine thenC_n ?_
  refine CS.seq ?_
  refine CS.seq ?_
  refine CS.region ?_
  refine RS.q rfl (QO.move) ?_
  refine RS.q rfl (QO.lenStr Tryd.underlying9 (by rfl)) ?_
  refine RS.q rfl (QO.eql (by rfl) (by rfl)) ?_
  refine RS.nil ?_
  refine thenC_n ?_
  refine CS.condF (by rfl) rfl ?_
  refine CS.skip ?_
  refine thenC_n ?_
  refine CS.seq ?_
  refine CS.seq ?_
  refine CS.region ?_
  refine RS.q rfl (QO.move) ?_
  refine RS.q rfl (QO.idxStr (b := 48) Tryd.underlying9 (by rfl) (by rfl) (by decide) (by rfl)) ?_
  refine RS.nil ?_
  refine thenC_n ?_
  refine CS.block ?_
  refine CS.seq ?_
  refine CS.seq ?_
  refine CS.region ?_
  refine RS.q rfl (QO.eql (by rfl) (by rfl)) ?_
  refine RS.q rfl (QO.assign) ?_
  refine RS.nil ?_
  refine thenC_n ?_
  refine CS.condF (by rfl) rfl ?_
  refine CS.seq ?_
  refine CS.region ?_
  refine RS.q rfl (QO.eql (by rfl) (by rfl)) ?_
  refine RS.q rfl (QO.assign) ?_
  refine RS.nil ?_
  refine thenC_n ?_
  refine CS.condF (by rfl) rfl ?_
  refine CS.seq ?_
  refine CS.region ?_
  refine RS.q rfl (QO.eql (by rfl) (by rfl)) ?_
  refine RS.q rfl (QO.assign) ?_
  refine RS.nil ?_
  refine thenC_n ?_
  refine CS.condT (by rfl) rfl ?_
  refine CS.skip ?_
  refine thenC_n ?_
  refine CS.condT (by rfl) rfl ?_
  refine CS.block ?_
  refine CS.seq ?_
  refine CS.region ?_
  refine RS.q rfl (QO.move) ?_
  refine RS.q rfl (QO.leq (by rfl) (by rfl)) ?_
  refine RS.q rfl (QO.move) ?_
  refine RS.on (dj := 52) rfl (congrArg Value.bool rfl) ?_
  refine RS.q rfl (QO.move) ?_
  refine RS.on (dj := 52) rfl (congrArg Value.bool rfl) ?_
  refine RS.call rfl (by rfl) ok164 (by rfl) (fun w ho => hasP _ _ _ _) ?_
  rintro _ _ ⟨rfl, rfl⟩
  refine RS.q rfl (QO.pickT (by rfl) rfl (by rfl)) ?_
  refine RS.q rfl (QO.assign) ?_
  refine RS.nil ?_
  refine thenC_n ?_
  refine CS.condF (by rfl) rfl ?_
  refine CS.seq ?_
  refine CS.region ?_
  refine RS.q rfl (QO.move) ?_
  refine RS.q rfl (QO.leq (by rfl) (by rfl)) ?_
  refine RS.q rfl (QO.move) ?_
  refine RS.on (dj := 61) rfl (congrArg Value.bool rfl) ?_
  refine RS.q rfl (QO.move) ?_
  refine RS.on (dj := 61) rfl (congrArg Value.bool rfl) ?_
  refine RS.call rfl (by rfl) ok164 (by rfl) (fun w ho => hasP _ _ _ _) ?_
  rintro _ _ ⟨rfl, rfl⟩
  refine RS.q rfl (QO.pickT (by rfl) rfl (by rfl)) ?_
  refine RS.q rfl (QO.assign) ?_
  refine RS.nil ?_
  refine thenC_n ?_
  refine CS.condF (by rfl) rfl ?_
  refine CS.seq ?_
  refine CS.region ?_
  refine RS.q rfl (QO.move) ?_
  refine RS.q rfl (QO.leq (by rfl) (by rfl)) ?_
  refine RS.q rfl (QO.move) ?_
  refine RS.on (dj := 70) rfl (congrArg Value.bool rfl) ?_
  refine RS.q rfl (QO.move) ?_
  refine RS.on (dj := 70) rfl (congrArg Value.bool rfl) ?_
  refine RS.call rfl (by rfl) ok164 (by rfl) (fun w ho => hasP _ _ _ _) ?_
  rintro _ _ ⟨rfl, rfl⟩
  refine RS.q rfl (QO.pickT (by rfl) rfl (by rfl)) ?_
  refine RS.q rfl (QO.assign) ?_
  refine RS.nil ?_
  refine thenC_n ?_
  refine CS.condT (by rfl) rfl ?_
  refine CS.seq ?_
  refine CS.region ?_
  refine RS.q rfl (QO.move) ?_
  refine RS.q rfl (QO.cutStrHi Tryd.underlying9 (by rfl) (by rfl) (by decide) (by decide)) ?_
  refine RS.q rfl (QO.assign) ?_
  refine RS.nil ?_
  refine thenC_n ?_
  refine CS.ret ?_
  refine blockC_r ?_
  refine blockC_r ?_
  refine thenC_r ?_
  refine retQ.mk (H' := []) (.inr rfl) (RVs.tmp (by rfl) RVs.nil) (List.nil_sublist _) ?_
  exact ⟨by rfl, rfl⟩

set_option maxRecDepth 100000 in
theorem mul64_6 (W : World) : Fn_ Tryd.prog 211 #[.int .u64 1, .int .u64 6] W (fun v H => v = .tuple #[.int .u64 0, .int .u64 6] ∧ H = []) := by
  refine Fn_.intro Tryd.func211 rfl rfl (by rfl) ?_
  refine CS.seq ?_
  refine CS.region ?_
  refine RS.q rfl (QO.assign) ?_
  refine RS.q rfl (QO.assign) ?_
  refine RS.nil ?_
  refine thenC_n ?_
  refine CS.seq ?_
  refine CS.region ?_
  refine RS.q rfl (QO.move) ?_
  refine RS.q rfl (QO.ibin (by rfl) (by rfl) trivial) ?_
  refine RS.q rfl (QO.assign) ?_
  refine RS.nil ?_
  refine thenC_n ?_
  refine CS.seq ?_
  refine CS.region ?_
  refine RS.q rfl (QO.move) ?_
  refine RS.q rfl (QO.ibin (by rfl) (by rfl) (show (0:Int) ≤ _ by omega)) ?_
  refine RS.q rfl (QO.assign) ?_
  refine RS.nil ?_
  refine thenC_n ?_
  refine CS.seq ?_
  refine CS.region ?_
  refine RS.q rfl (QO.move) ?_
  refine RS.q rfl (QO.ibin (by rfl) (by rfl) trivial) ?_
  refine RS.q rfl (QO.assign) ?_
  refine RS.nil ?_
  refine thenC_n ?_
  refine CS.seq ?_
  refine CS.region ?_
  refine RS.q rfl (QO.move) ?_
  refine RS.q rfl (QO.ibin (by rfl) (by rfl) (show (0:Int) ≤ _ by omega)) ?_
  refine RS.q rfl (QO.assign) ?_
  refine RS.nil ?_
  refine thenC_n ?_
  refine CS.seq ?_
  refine CS.region ?_
  refine RS.q rfl (QO.move) ?_
  refine RS.q rfl (QO.move) ?_
  refine RS.q rfl (QO.ibin (by rfl) (by rfl) trivial) ?_
  refine RS.q rfl (QO.assign) ?_
  refine RS.nil ?_
  refine thenC_n ?_
  refine CS.seq ?_
  refine CS.region ?_
  refine RS.q rfl (QO.move) ?_
  refine RS.q rfl (QO.move) ?_
  refine RS.q rfl (QO.ibin (by rfl) (by rfl) trivial) ?_
  refine RS.q rfl (QO.move) ?_
  refine RS.q rfl (QO.ibin (by rfl) (by rfl) (show (0:Int) ≤ _ by omega)) ?_
  refine RS.q rfl (QO.ibin (by rfl) (by rfl) trivial) ?_
  refine RS.q rfl (QO.assign) ?_
  refine RS.nil ?_
  refine thenC_n ?_
  refine CS.seq ?_
  refine CS.region ?_
  refine RS.q rfl (QO.move) ?_
  refine RS.q rfl (QO.ibin (by rfl) (by rfl) trivial) ?_
  refine RS.q rfl (QO.assign) ?_
  refine RS.nil ?_
  refine thenC_n ?_
  refine CS.seq ?_
  refine CS.region ?_
  refine RS.q rfl (QO.move) ?_
  refine RS.q rfl (QO.ibin (by rfl) (by rfl) (show (0:Int) ≤ _ by omega)) ?_
  refine RS.q rfl (QO.assign) ?_
  refine RS.nil ?_
  refine thenC_n ?_
  refine CS.seq ?_
  refine CS.region ?_
  refine RS.q rfl (QO.move) ?_
  refine RS.q rfl (QO.move) ?_
  refine RS.q rfl (QO.move) ?_
  refine RS.q rfl (QO.ibin (by rfl) (by rfl) trivial) ?_
  refine RS.q rfl (QO.ibin (by rfl) (by rfl) trivial) ?_
  refine RS.q rfl (QO.assign) ?_
  refine RS.nil ?_
  refine thenC_n ?_
  refine CS.seq ?_
  refine CS.region ?_
  refine RS.q rfl (QO.move) ?_
  refine RS.q rfl (QO.move) ?_
  refine RS.q rfl (QO.ibin (by rfl) (by rfl) trivial) ?_
  refine RS.q rfl (QO.move) ?_
  refine RS.q rfl (QO.ibin (by rfl) (by rfl) trivial) ?_
  refine RS.q rfl (QO.move) ?_
  refine RS.q rfl (QO.ibin (by rfl) (by rfl) (show (0:Int) ≤ _ by omega)) ?_
  refine RS.q rfl (QO.ibin (by rfl) (by rfl) trivial) ?_
  refine RS.q rfl (QO.assign) ?_
  refine RS.nil ?_
  refine thenC_n ?_
  refine CS.seq ?_
  refine CS.region ?_
  refine RS.q rfl (QO.move) ?_
  refine RS.q rfl (QO.move) ?_
  refine RS.q rfl (QO.ibin (by rfl) (by rfl) trivial) ?_
  refine RS.q rfl (QO.assign) ?_
  refine RS.nil ?_
  refine thenC_n ?_
  refine CS.ret ?_
  refine retQ.mk (H' := []) (.inr rfl) (RVs.tmp (by rfl) (RVs.tmp (by rfl) RVs.nil)) (List.nil_sublist _) ?_
  exact ⟨by rfl, rfl⟩

set_option maxRecDepth 100000 in
theorem mul_6 (W : World) : Fn_ Tryd.prog 163 #[.int .u64 1, .int .u64 6] W (fun v H => v = .tuple #[.int .u64 0, .int .u64 6] ∧ H = []) := by
  refine Fn_.intro Tryd.func163 rfl rfl (by rfl) ?_
  refine CS.seq ?_
  refine CS.region ?_
  refine RS.q rfl (QO.assign) ?_
  refine RS.q rfl (QO.assign) ?_
  refine RS.nil ?_
  refine thenC_n ?_
  refine CS.seq ?_
  refine CS.condF (by rfl) rfl ?_
  refine CS.skip ?_
  refine thenC_n ?_
  refine CS.seq ?_
  refine CS.region ?_
  refine RS.q rfl (QO.move) ?_
  refine RS.q rfl (QO.move) ?_
  refine RS.call rfl (by rfl) ok211 (by rfl) (fun w ho => mul64_6 _) ?_
  rintro _ _ ⟨rfl, rfl⟩
  refine RS.q rfl (QO.move) ?_
  refine RS.q rfl (QO.extract (by rfl) (by rfl)) ?_
  refine RS.q rfl (QO.extract (by rfl) (by rfl)) ?_
  refine RS.q rfl (QO.assign) ?_
  refine RS.q rfl (QO.assign) ?_
  refine RS.nil ?_
  refine thenC_n ?_
  refine CS.seq ?_
  refine CS.region ?_
  refine RS.q rfl (QO.move) ?_
  refine RS.q rfl (QO.move) ?_
  refine RS.q rfl (QO.assign) ?_
  refine RS.q rfl (QO.assign) ?_
  refine RS.nil ?_
  refine thenC_n ?_
  refine CS.ret ?_
  refine retQ.mk (H' := []) (.inr rfl) (RVs.tmp (by rfl) (RVs.tmp (by rfl) RVs.nil)) (List.nil_sublist _) ?_
  exact ⟨rfl, rfl⟩

set_option maxHeartbeats 4000000 in
set_option maxRecDepth 100000 in
theorem rep6 (W : World) : Fn_ Tryd.prog 139 #[sv [48], iv 6] W (fun v H => v = sv (List.replicate 6 48) ∧ H = []) := by
  refine Fn_.intro Tryd.func139 rfl rfl (by rfl) ?_
  refine CS.seq ?_
  refine CS.region ?_
  refine RS.q rfl (QO.assign) ?_
  refine RS.nil ?_
  refine thenC_n ?_
  refine CS.seq ?_
  refine CS.seq ?_
  refine CS.region ?_
  refine RS.q rfl (QO.move) ?_
  refine RS.nil ?_
  refine thenC_n ?_
  refine CS.block ?_
  refine CS.seq ?_
  refine CS.region ?_
  refine RS.q rfl (QO.eql (by rfl) (by rfl)) ?_
  refine RS.q rfl (QO.assign) ?_
  refine RS.nil ?_
  refine thenC_n ?_
  refine CS.condF (by rfl) rfl ?_
  refine CS.seq ?_
  refine CS.region ?_
  refine RS.q rfl (QO.eql (by rfl) (by rfl)) ?_
  refine RS.q rfl (QO.assign) ?_
  refine RS.nil ?_
  refine thenC_n ?_
  refine CS.condF (by rfl) rfl ?_
  refine CS.skip ?_
  refine blockC_n ?_
  refine thenC_n ?_
  refine CS.seq ?_
  refine CS.seq ?_
  refine CS.region ?_
  refine RS.q rfl (QO.move) ?_
  refine RS.q rfl (QO.lss (by rfl) (by rfl)) ?_
  refine RS.nil ?_
  refine thenC_n ?_
  refine CS.condF (by rfl) rfl ?_
  refine CS.skip ?_
  refine thenC_n ?_
  refine CS.seq ?_
  refine CS.region ?_
  refine RS.q rfl (QO.move) ?_
  refine RS.q rfl (QO.lenStr Tryd.underlying9 (by rfl)) ?_
  refine RS.qv rfl (QO.conv_int Tryd.underlying3 Tryd.underlying194 (by rfl)) (show _ = Value.int .u64 1 from rfl) ?_
  refine RS.q rfl (QO.move) ?_
  refine RS.qv rfl (QO.conv_int Tryd.underlying3 Tryd.underlying194 (by rfl)) (show _ = Value.int .u64 6 from rfl) ?_
  refine RS.call rfl (by rfl) ok163 (by rfl) (fun w ho => mul_6 _) ?_
  rintro _ _ ⟨rfl, rfl⟩
  refine RS.q rfl (QO.move) ?_
  refine RS.q rfl (QO.extract (by rfl) (by rfl)) ?_
  refine RS.q rfl (QO.extract (by rfl) (by rfl)) ?_
  refine RS.q rfl (QO.assign) ?_
  refine RS.q rfl (QO.assign) ?_
  refine RS.nil ?_
  refine thenC_n ?_
  refine CS.seq ?_
  refine CS.seq ?_
  refine CS.region ?_
  refine RS.q rfl (QO.move) ?_
  refine RS.q rfl (QO.gtr (by rfl) (by rfl)) ?_
  refine RS.q rfl (QO.move) ?_
  refine RS.on (dj := 31) rfl (congrArg Value.bool rfl) ?_
  refine RS.q rfl (QO.move) ?_
  refine RS.on (dj := 31) rfl (congrArg Value.bool rfl) ?_
  refine RS.q rfl (QO.gtr (by rfl) (by rfl)) ?_
  refine RS.q rfl (QO.pickF (by rfl) rfl (by rfl)) ?_
  refine RS.nil ?_
  refine thenC_n ?_
  refine CS.condF (by rfl) rfl ?_
  refine CS.skip ?_
  refine thenC_n ?_
  refine CS.seq ?_
  refine CS.region ?_
  refine RS.q rfl (QO.move) ?_
  refine RS.qv rfl (QO.conv_int Tryd.underlying194 Tryd.underlying3 (by rfl)) (show _ = iv 6 from rfl) ?_
  refine RS.q rfl (QO.assign) ?_
  refine RS.nil ?_
  refine thenC_n ?_
  refine CS.seq ?_
  refine CS.seq ?_
  refine CS.region ?_
  refine RS.q rfl (QO.move) ?_
  refine RS.q rfl (QO.lenStr Tryd.underlying9 (by rfl)) ?_
  refine RS.q rfl (QO.eql (by rfl) (by rfl)) ?_
  refine RS.nil ?_
  refine thenC_n ?_
  refine CS.condF (by rfl) rfl ?_
  refine CS.skip ?_
  refine thenC_n ?_
  refine CS.seq ?_
  refine CS.seq ?_
  refine CS.region ?_
  refine RS.q rfl (QO.move) ?_
  refine RS.q rfl (QO.idxStr (b := 48) Tryd.underlying9 (by rfl) (by rfl) (by decide) (by rfl)) ?_
  refine RS.nil ?_
  refine thenC_n ?_
  refine CS.block ?_
  refine CS.seq ?_
  refine CS.seq ?_
  refine CS.region ?_
  refine RS.q rfl (QO.eql (by rfl) (by rfl)) ?_
  refine RS.q rfl (QO.assign) ?_
  refine RS.nil ?_
  refine thenC_n ?_
  refine CS.condF (by rfl) rfl ?_
  refine CS.seq ?_
  refine CS.region ?_
  refine RS.q rfl (QO.eql (by rfl) (by rfl)) ?_
  refine RS.q rfl (QO.assign) ?_
  refine RS.nil ?_
  refine thenC_n ?_
  refine CS.condF (by rfl) rfl ?_
  refine CS.seq ?_
  refine CS.region ?_
  refine RS.q rfl (QO.eql (by rfl) (by rfl)) ?_
  refine RS.q rfl (QO.assign) ?_
  refine RS.nil ?_
  refine thenC_n ?_
  refine CS.condT (by rfl) rfl ?_
  refine CS.skip ?_
  refine thenC_n ?_
  refine CS.condT (by rfl) rfl ?_
  refine CS.block ?_
  refine CS.seq ?_
  refine CS.region ?_
  refine RS.q rfl (QO.move) ?_
  refine RS.q rfl (QO.leq (by rfl) (by rfl)) ?_
  refine RS.q rfl (QO.move) ?_
  refine RS.on (dj := 52) rfl (congrArg Value.bool rfl) ?_
  refine RS.q rfl (QO.move) ?_
  refine RS.on (dj := 52) rfl (congrArg Value.bool rfl) ?_
  refine RS.call rfl (by rfl) ok164 (by rfl) (fun w ho => hasP _ _ _ _) ?_
  rintro _ _ ⟨rfl, rfl⟩
  refine RS.q rfl (QO.pickT (by rfl) rfl (by rfl)) ?_
  refine RS.q rfl (QO.assign) ?_
  refine RS.nil ?_
  refine thenC_n ?_
  refine CS.condF (by rfl) rfl ?_
  refine CS.seq ?_
  refine CS.region ?_
  refine RS.q rfl (QO.move) ?_
  refine RS.q rfl (QO.leq (by rfl) (by rfl)) ?_
  refine RS.q rfl (QO.move) ?_
  refine RS.on (dj := 61) rfl (congrArg Value.bool rfl) ?_
  refine RS.q rfl (QO.move) ?_
  refine RS.on (dj := 61) rfl (congrArg Value.bool rfl) ?_
  refine RS.call rfl (by rfl) ok164 (by rfl) (fun w ho => hasP _ _ _ _) ?_
  rintro _ _ ⟨rfl, rfl⟩
  refine RS.q rfl (QO.pickT (by rfl) rfl (by rfl)) ?_
  refine RS.q rfl (QO.assign) ?_
  refine RS.nil ?_
  refine thenC_n ?_
  refine CS.condF (by rfl) rfl ?_
  refine CS.seq ?_
  refine CS.region ?_
  refine RS.q rfl (QO.move) ?_
  refine RS.q rfl (QO.leq (by rfl) (by rfl)) ?_
  refine RS.q rfl (QO.move) ?_
  refine RS.on (dj := 70) rfl (congrArg Value.bool rfl) ?_
  refine RS.q rfl (QO.move) ?_
  refine RS.on (dj := 70) rfl (congrArg Value.bool rfl) ?_
  refine RS.call rfl (by rfl) ok164 (by rfl) (fun w ho => hasP _ _ _ _) ?_
  rintro _ _ ⟨rfl, rfl⟩
  refine RS.q rfl (QO.pickT (by rfl) rfl (by rfl)) ?_
  refine RS.q rfl (QO.assign) ?_
  refine RS.nil ?_
  refine thenC_n ?_
  refine CS.condT (by rfl) rfl ?_
  refine CS.seq ?_
  refine CS.region ?_
  refine RS.q rfl (QO.move) ?_
  refine RS.q rfl (QO.cutStrHi Tryd.underlying9 (by rfl) (by rfl) (by decide) (by decide)) ?_
  refine RS.q rfl (QO.assign) ?_
  refine RS.nil ?_
  refine thenC_n ?_
  refine CS.ret ?_
  refine blockC_r ?_
  refine blockC_r ?_
  refine thenC_r ?_
  refine retQ.mk (H' := []) (.inr rfl) (RVs.tmp (by rfl) RVs.nil) (List.nil_sublist _) ?_
  exact ⟨by rfl, rfl⟩

set_option maxRecDepth 100000 in
theorem mul64_7 (W : World) : Fn_ Tryd.prog 211 #[.int .u64 1, .int .u64 7] W (fun v H => v = .tuple #[.int .u64 0, .int .u64 7] ∧ H = []) := by
  refine Fn_.intro Tryd.func211 rfl rfl (by rfl) ?_
  refine CS.seq ?_
  refine CS.region ?_
  refine RS.q rfl (QO.assign) ?_
  refine RS.q rfl (QO.assign) ?_
  refine RS.nil ?_
  refine thenC_n ?_
  refine CS.seq ?_
  refine CS.region ?_
  refine RS.q rfl (QO.move) ?_
  refine RS.q rfl (QO.ibin (by rfl) (by rfl) trivial) ?_
  refine RS.q rfl (QO.assign) ?_
  refine RS.nil ?_
  refine thenC_n ?_
  refine CS.seq ?_
  refine CS.region ?_
  refine RS.q rfl (QO.move) ?_
  refine RS.q rfl (QO.ibin (by rfl) (by rfl) (show (0:Int) ≤ _ by omega)) ?_
  refine RS.q rfl (QO.assign) ?_
  refine RS.nil ?_
  refine thenC_n ?_
  refine CS.seq ?_
  refine CS.region ?_
  refine RS.q rfl (QO.move) ?_
  refine RS.q rfl (QO.ibin (by rfl) (by rfl) trivial) ?_
  refine RS.q rfl (QO.assign) ?_
  refine RS.nil ?_
  refine thenC_n ?_
  refine CS.seq ?_
  refine CS.region ?_
  refine RS.q rfl (QO.move) ?_
  refine RS.q rfl (QO.ibin (by rfl) (by rfl) (show (0:Int) ≤ _ by omega)) ?_
  refine RS.q rfl (QO.assign) ?_
  refine RS.nil ?_
  refine thenC_n ?_
  refine CS.seq ?_
  refine CS.region ?_
  refine RS.q rfl (QO.move) ?_
  refine RS.q rfl (QO.move) ?_
  refine RS.q rfl (QO.ibin (by rfl) (by rfl) trivial) ?_
  refine RS.q rfl (QO.assign) ?_
  refine RS.nil ?_
  refine thenC_n ?_
  refine CS.seq ?_
  refine CS.region ?_
  refine RS.q rfl (QO.move) ?_
  refine RS.q rfl (QO.move) ?_
  refine RS.q rfl (QO.ibin (by rfl) (by rfl) trivial) ?_
  refine RS.q rfl (QO.move) ?_
  refine RS.q rfl (QO.ibin (by rfl) (by rfl) (show (0:Int) ≤ _ by omega)) ?_
  refine RS.q rfl (QO.ibin (by rfl) (by rfl) trivial) ?_
  refine RS.q rfl (QO.assign) ?_
  refine RS.nil ?_
  refine thenC_n ?_
  refine CS.seq ?_
  refine CS.region ?_
  refine RS.q rfl (QO.move) ?_
  refine RS.q rfl (QO.ibin (by rfl) (by rfl) trivial) ?_
  refine RS.q rfl (QO.assign) ?_
  refine RS.nil ?_
  refine thenC_n ?_
  refine CS.seq ?_
  refine CS.region ?_
  refine RS.q rfl (QO.move) ?_
  refine RS.q rfl (QO.ibin (by rfl) (by rfl) (show (0:Int) ≤ _ by omega)) ?_
  refine RS.q rfl (QO.assign) ?_
  refine RS.nil ?_
  refine thenC_n ?_
  refine CS.seq ?_
  refine CS.region ?_
  refine RS.q rfl (QO.move) ?_
  refine RS.q rfl (QO.move) ?_
  refine RS.q rfl (QO.move) ?_
  refine RS.q rfl (QO.ibin (by rfl) (by rfl) trivial) ?_
  refine RS.q rfl (QO.ibin (by rfl) (by rfl) trivial) ?_
  refine RS.q rfl (QO.assign) ?_
  refine RS.nil ?_
  refine thenC_n ?_
  refine CS.seq ?_
  refine CS.region ?_
  refine RS.q rfl (QO.move) ?_
  refine RS.q rfl (QO.move) ?_
  refine RS.q rfl (QO.ibin (by rfl) (by rfl) trivial) ?_
  refine RS.q rfl (QO.move) ?_
  refine RS.q rfl (QO.ibin (by rfl) (by rfl) trivial) ?_
  refine RS.q rfl (QO.move) ?_
  refine RS.q rfl (QO.ibin (by rfl) (by rfl) (show (0:Int) ≤ _ by omega)) ?_
  refine RS.q rfl (QO.ibin (by rfl) (by rfl) trivial) ?_
  refine RS.q rfl (QO.assign) ?_
  refine RS.nil ?_
  refine thenC_n ?_
  refine CS.seq ?_
  refine CS.region ?_
  refine RS.q rfl (QO.move) ?_
  refine RS.q rfl (QO.move) ?_
  refine RS.q rfl (QO.ibin (by rfl) (by rfl) trivial) ?_
  refine RS.q rfl (QO.assign) ?_
  refine RS.nil ?_
  refine thenC_n ?_
  refine CS.ret ?_
  refine retQ.mk (H' := []) (.inr rfl) (RVs.tmp (by rfl) (RVs.tmp (by rfl) RVs.nil)) (List.nil_sublist _) ?_
  exact ⟨by rfl, rfl⟩

set_option maxRecDepth 100000 in
theorem mul_7 (W : World) : Fn_ Tryd.prog 163 #[.int .u64 1, .int .u64 7] W (fun v H => v = .tuple #[.int .u64 0, .int .u64 7] ∧ H = []) := by
  refine Fn_.intro Tryd.func163 rfl rfl (by rfl) ?_
  refine CS.seq ?_
  refine CS.region ?_
  refine RS.q rfl (QO.assign) ?_
  refine RS.q rfl (QO.assign) ?_
  refine RS.nil ?_
  refine thenC_n ?_
  refine CS.seq ?_
  refine CS.condF (by rfl) rfl ?_
  refine CS.skip ?_
  refine thenC_n ?_
  refine CS.seq ?_
  refine CS.region ?_
  refine RS.q rfl (QO.move) ?_
  refine RS.q rfl (QO.move) ?_
  refine RS.call rfl (by rfl) ok211 (by rfl) (fun w ho => mul64_7 _) ?_
  rintro _ _ ⟨rfl, rfl⟩
  refine RS.q rfl (QO.move) ?_
  refine RS.q rfl (QO.extract (by rfl) (by rfl)) ?_
  refine RS.q rfl (QO.extract (by rfl) (by rfl)) ?_
  refine RS.q rfl (QO.assign) ?_
  refine RS.q rfl (QO.assign) ?_
  refine RS.nil ?_
  refine thenC_n ?_
  refine CS.seq ?_
  refine CS.region ?_
  refine RS.q rfl (QO.move) ?_
  refine RS.q rfl (QO.move) ?_
  refine RS.q rfl (QO.assign) ?_
  refine RS.q rfl (QO.assign) ?_
  refine RS.nil ?_
  refine thenC_n ?_
  refine CS.ret ?_
  refine retQ.mk (H' := []) (.inr rfl) (RVs.tmp (by rfl) (RVs.tmp (by rfl) RVs.nil)) (List.nil_sublist _) ?_
  exact ⟨rfl, rfl⟩

set_option maxHeartbeats 4000000 in
set_option maxRecDepth 100000 in
theorem rep7 (W : World) : Fn_ Tryd.prog 139 #[sv [48], iv 7] W (fun v H => v = sv (List.replicate 7 48) ∧ H = []) := by
  refine Fn_.intro Tryd.func139 rfl rfl (by rfl) ?_
  refine CS.seq ?_
  refine CS.region ?_
  refine RS.q rfl (QO.assign) ?_
  refine RS.nil ?_
  refine thenC_n ?_
  refine CS.seq ?_
  refine CS.seq ?_
  refine CS.region ?_
  refine RS.q rfl (QO.move) ?_
  refine RS.nil ?_
  refine thenC_n ?_
  refine CS.block ?_
  refine CS.seq ?_
  refine CS.region ?_
  refine RS.q rfl (QO.eql (by rfl) (by rfl)) ?_
  refine RS.q rfl (QO.assign) ?_
  refine RS.nil ?_
  refine thenC_n ?_
  refine CS.condF (by rfl) rfl ?_
  refine CS.seq ?_
  refine CS.region ?_
  refine RS.q rfl (QO.eql (by rfl) (by rfl)) ?_
  refine RS.q rfl (QO.assign) ?_
  refine RS.nil ?_
  refine thenC_n ?_
  refine CS.condF (by rfl) rfl ?_
  refine CS.skip ?_
  refine blockC_n ?_
  refine thenC_n ?_
  refine CS.seq ?_
  refine CS.seq ?_
  refine CS.region ?_
  refine RS.q rfl (QO.move) ?_
  refine RS.q rfl (QO.lss (by rfl) (by rfl)) ?_
  refine RS.nil ?_
  refine thenC_n ?_
  refine CS.condF (by rfl) rfl ?_
  refine CS.skip ?_
  refine thenC_n ?_
  refine CS.seq ?_
  refine CS.region ?_
  refine RS.q rfl (QO.move) ?_
  refine RS.q rfl (QO.lenStr Tryd.underlying9 (by rfl)) ?_
  refine RS.qv rfl (QO.conv_int Tryd.underlying3 Tryd.underlying194 (by rfl)) (show _ = Value.int .u64 1 from rfl) ?_
  refine RS.q rfl (QO.move) ?_
  refine RS.qv rfl (QO.conv_int Tryd.underlying3 Tryd.underlying194 (by rfl)) (show _ = Value.int .u64 7 from rfl) ?_
  refine RS.call rfl (by rfl) ok163 (by rfl) (fun w ho => mul_7 _) ?_
  rintro _ _ ⟨rfl, rfl⟩
  refine RS.q rfl (QO.move) ?_
  refine RS.q rfl (QO.extract (by rfl) (by rfl)) ?_
  refine RS.q rfl (QO.extract (by rfl) (by rfl)) ?_
  refine RS.q rfl (QO.assign) ?_
  refine RS.q rfl (QO.assign) ?_
  refine RS.nil ?_
  refine thenC_n ?_
  refine CS.seq ?_
  refine CS.seq ?_
  refine CS.region ?_
  refine RS.q rfl (QO.move) ?_
  refine RS.q rfl (QO.gtr (by rfl) (by rfl)) ?_
  refine RS.q rfl (QO.move) ?_
  refine RS.on (dj := 31) rfl (congrArg Value.bool rfl) ?_
  refine RS.q rfl (QO.move) ?_
  refine RS.on (dj := 31) rfl (congrArg Value.bool rfl) ?_
  refine RS.q rfl (QO.gtr (by rfl) (by rfl)) ?_
  refine RS.q rfl (QO.pickF (by rfl) rfl (by rfl)) ?_
  refine RS.nil ?_
  refine thenC_n ?_
  refine CS.condF (by rfl) rfl ?_
  refine CS.skip ?_
  refine thenC_n ?_
  refine CS.seq ?_
  refine CS.region ?_
  refine RS.q rfl (QO.move) ?_
  refine RS.qv rfl (QO.conv_int Tryd.underlying194 Tryd.underlying3 (by rfl)) (show _ = iv 7 from rfl) ?_
  refine RS.q rfl (QO.assign) ?_
  refine RS.nil ?_
  refine thenC_n ?_
  refine CS.seq ?_
  refine CS.seq ?_
  refine CS.region ?_
  refine RS.q rfl (QO.move) ?_
  refine RS.q rfl (QO.lenStr Tryd.underlying9 (by rfl)) ?_
  refine RS.q rfl (QO.eql (by rfl) (by rfl)) ?_
  refine RS.nil ?_
  refine thenC_n ?_
  refine CS.condF (by rfl) rfl ?_
  refine CS.skip ?_
  refine thenC_n ?_
  refine CS.seq ?_
  refine CS.seq ?_
  refine CS.region ?_
  refine RS.q rfl (QO.move) ?_
  refine RS.q rfl (QO.idxStr (b := 48) Tryd.underlying9 (by rfl) (by rfl) (by decide) (by rfl)) ?_
  refine RS.nil ?_
  refine thenC_n ?_
  refine CS.block ?_
  refine CS.seq ?_
  refine CS.seq ?_
  refine CS.region ?_
  refine RS.q rfl (QO.eql (by rfl) (by rfl)) ?_
  refine RS.q rfl (QO.assign) ?_
  refine RS.nil ?_
  refine thenC_n ?_
  refine CS.condF (by rfl) rfl ?_
  refine CS.seq ?_
  refine CS.region ?_
  refine RS.q rfl (QO.eql (by rfl) (by rfl)) ?_
  refine RS.q rfl (QO.assign) ?_
  refine RS.nil ?_
  refine thenC_n ?_
  refine CS.condF (by rfl) rfl ?_
  refine CS.seq ?_
  refine CS.region ?_
  refine RS.q rfl (QO.eql (by rfl) (by rfl)) ?_
  refine RS.q rfl (QO.assign) ?_
  refine RS.nil ?_
  refine thenC_n ?_
  refine CS.condT (by rfl) rfl ?_
  refine CS.skip ?_
  refine thenC_n ?_
  refine CS.condT (by rfl) rfl ?_
  refine CS.block ?_
  refine CS.seq ?_
  refine CS.region ?_
  refine RS.q rfl (QO.move) ?_
  refine RS.q rfl (QO.leq (by rfl) (by rfl)) ?_
  refine RS.q rfl (QO.move) ?_
  refine RS.on (dj := 52) rfl (congrArg Value.bool rfl) ?_
  refine RS.q rfl (QO.move) ?_
  refine RS.on (dj := 52) rfl (congrArg Value.bool rfl) ?_
  refine RS.call rfl (by rfl) ok164 (by rfl) (fun w ho => hasP _ _ _ _) ?_
  rintro _ _ ⟨rfl, rfl⟩
  refine RS.q rfl (QO.pickT (by rfl) rfl (by rfl)) ?_
  refine RS.q rfl (QO.assign) ?_
  refine RS.nil ?_
  refine thenC_n ?_
  refine CS.condF (by rfl) rfl ?_
  refine CS.seq ?_
  refine CS.region ?_
  refine RS.q rfl (QO.move) ?_
  refine RS.q rfl (QO.leq (by rfl) (by rfl)) ?_
  refine RS.q rfl (QO.move) ?_
  refine RS.on (dj := 61) rfl (congrArg Value.bool rfl) ?_
  refine RS.q rfl (QO.move) ?_
  refine RS.on (dj := 61) rfl (congrArg Value.bool rfl) ?_
  refine RS.call rfl (by rfl) ok164 (by rfl) (fun w ho => hasP _ _ _ _) ?_
  rintro _ _ ⟨rfl, rfl⟩
  refine RS.q rfl (QO.pickT (by rfl) rfl (by rfl)) ?_
  refine RS.q rfl (QO.assign) ?_
  refine RS.nil ?_
  refine thenC_n ?_
  refine CS.condF (by rfl) rfl ?_
  refine CS.seq ?_
  refine CS.region ?_
  refine RS.q rfl (QO.move) ?_
  refine RS.q rfl (QO.leq (by rfl) (by rfl)) ?_
  refine RS.q rfl (QO.move) ?_
  refine RS.on (dj := 70) rfl (congrArg Value.bool rfl) ?_
  refine RS.q rfl (QO.move) ?_
  refine RS.on (dj := 70) rfl (congrArg Value.bool rfl) ?_
  refine RS.call rfl (by rfl) ok164 (by rfl) (fun w ho => hasP _ _ _ _) ?_
  rintro _ _ ⟨rfl, rfl⟩
  refine RS.q rfl (QO.pickT (by rfl) rfl (by rfl)) ?_
  refine RS.q rfl (QO.assign) ?_
  refine RS.nil ?_
  refine thenC_n ?_
  refine CS.condT (by rfl) rfl ?_
  refine CS.seq ?_
  refine CS.region ?_
  refine RS.q rfl (QO.move) ?_
  refine RS.q rfl (QO.cutStrHi Tryd.underlying9 (by rfl) (by rfl) (by decide) (by decide)) ?_
  refine RS.q rfl (QO.assign) ?_
  refine RS.nil ?_
  refine thenC_n ?_
  refine CS.ret ?_
  refine blockC_r ?_
  refine blockC_r ?_
  refine thenC_r ?_
  refine retQ.mk (H' := []) (.inr rfl) (RVs.tmp (by rfl) RVs.nil) (List.nil_sublist _) ?_
  exact ⟨by rfl, rfl⟩

theorem repZ (c : Nat) (W : World) (hc : c ≤ 7) : Fn_ Tryd.prog 139 #[sv [48], iv (c : Int)] W (fun v H => v = sv (List.replicate c 48) ∧ H = []) := by
  match c, hc with
  | 0, _ => exact rep0 [48] W
  | 1, _ => exact rep1 [48] W
  | 2, _ => exact rep2 W
  | 3, _ => exact rep3 W
  | 4, _ => exact rep4 W
  | 5, _ => exact rep5 W
  | 6, _ => exact rep6 W
  | 7, _ => exact rep7 W

set_option maxRecDepth 100000 in
theorem rhex (n : Nat) (W : World) (hn : n < 4294967296) (hdb : W.cell? ⟨8, 15, none⟩ = some (.int .u8 4)) : Fn_ Tryd.prog 123 #[flt n] W (fun v H => v = sv (hexW n) ∧ H = []) := by
  have hc := cl_lt hn
  refine Fn_.intro Tryd.func123 rfl rfl (by rfl) ?_
  refine CS.seq ?_
  refine CS.region ?_
  refine RS.q rfl (QO.assign) ?_
  refine RS.nil ?_
  refine thenC_n ?_
  refine CS.seq ?_
  refine CS.region ?_
  refine RS.q rfl (QO.move) ?_
  refine RS.call rfl (by rfl) ok155 (by rfl) (fun w ho => bitsOf _ _) ?_
  rintro _ _ ⟨rfl, rfl⟩
  refine RS.qv rfl (QO.conv_int Tryd.underlying101 Tryd.underlying202 (by rfl)) (show _ = Value.int .u64 ((cl n : Nat) : Int) from congrArg (Value.int .u64) (by rw [IntKind.wrap_u64]; omega)) ?_
  refine RS.call rfl (by rfl) ok154 (by rfl) (fun w ho => fmtU (cl n) _ hc (ho.old hdb)) ?_
  rintro _ _ ⟨k, rfl, hk1, hk2, hk3, rfl⟩
  refine RS.q rfl (QO.assign) ?_
  refine RS.nil ?_
  refine thenC_n ?_
  refine CS.seq ?_
  refine CS.region ?_
  refine RS.q rfl (QO.move) ?_
  refine RS.qv rfl (QO.lenStr Tryd.underlying9 (by rfl)) (congrArg iv (show (((hxd k (cl n)).length : Nat) : Int) = (k : Int) by rw [hxd_len])) ?_
  first | (refine RS.qv rfl (QO.sub (by rfl) (by rfl) (by omega) (by omega)) (congrArg iv (show (8 : Int) - (k : Int) = ((8 - k : Nat) : Int) by omega)) ?_) | (refine RS.qv rfl (QO.ibin (by rfl) (by rfl) trivial) (congrArg iv (show (8 : Int) - (k : Int) = ((8 - k : Nat) : Int) by omega)) ?_)
  refine RS.call rfl (by rfl) ok139 (by rfl) (fun w ho => repZ (8 - k) _ (by omega)) ?_
  rintro _ _ ⟨rfl, rfl⟩
  refine RS.q rfl (QO.move) ?_
  refine RS.qv rfl (QO.stradd (l := List.replicate (8 - k) 48) (m := hxd k (cl n)) (by rfl) (by rfl) (by rw [List.length_replicate, hxd_len]; omega)) (congrArg sv (show List.replicate (8 - k) 48 ++ hxd k (cl n) = hexW n by rw [← hxd_pad _ _ _ hk1, Nat.sub_add_cancel hk3]; rfl)) ?_
  refine RS.q rfl (QO.assign) ?_
  refine RS.nil ?_
  refine thenC_n ?_
  refine CS.ret ?_
  refine retQ.mk (H' := []) (.inr rfl) (RVs.tmp (by rfl) RVs.nil) (List.nil_sublist _) ?_
  exact ⟨rfl, rfl⟩

set_option maxRecDepth 100000 in
theorem writeB (g : Nat) (p u : Value) (l : List UInt8) (c : UInt8) (Hr HR : HL) (W : World) (hp : p = .pointer none ∨ p = .pointer (some ⟨g, 0, none⟩)) (hrow : Row 5 1 u l.length (bc l) Hr) (h63 : l.length + 1 ≤ 140737488355328) : FnH Tryd.prog 124 #[.pointer (some ⟨g, 0, none⟩), .int .u8 (c.toNat : Int)] W (⟨g, 109, [p, u]⟩ :: (Hr ++ HR)) (fun v H => ∃ u2 Hr2, v = .nilIface ∧ H = ⟨g, 109, [.pointer (some ⟨g, 0, none⟩), u2]⟩ :: (Hr2 ++ HR) ∧ Row 5 1 u2 (l ++ [c]).length (bc (l ++ [c])) Hr2) := by
  refine FnH.intro Tryd.func124 rfl rfl (by rfl) ?_
  refine CS.seq ?_
  refine CS.region ?_
  refine RS.q rfl (QO.assign) ?_
  refine RS.nil ?_
  refine thenC_n ?_
  refine CS.seq ?_
  refine CS.region ?_
  refine RS.q rfl (QO.move) ?_
  refine RS.callH (⟨g, 109, [p, u]⟩ :: (Hr ++ HR)) rfl (by rfl) ok126 (by rfl) (by repeat (first | exact List.Sublist.refl _ | exact List.nil_sublist _ | refine List.Sublist.cons_cons _ ?_ | refine List.Sublist.cons _ ?_ | exact Sbp.refl | exact Sbp.nil | refine Sbp.cons (by repeat (first | exact Rem.head | apply Rem.tail)) ?_ | exact Sbp.app | refine Sbp.skip ?_ | exact List.sublist_append_left _ _ | exact List.sublist_append_right _ _)) (fun w ho => copyC g p u (Hr ++ HR) _ hp) ?_
  rintro _ _ rfl
  refine RS.nil ?_
  refine thenC_n ?_
  refine CS.seq ?_
  refine CS.region ?_
  refine RS.q rfl (QO.move) ?_
  refine RS.q rfl (QO.move) ?_
  refine RS.q rfl (QO.nilchk (by rfl)) ?_
  refine RS.q rfl (QO.fieldAddr fo109_1 (by rfl)) ?_
  first | (refine RS.q rfl (QO.load ty107 (by rfl) (by repeat (first | exact List.Mem.head _ | refine List.Mem.tail _ ?_)) (by rfl)) ?_) | (refine RS.q rfl (QO.loadO ty107 (by rfl) (by assumption)) ?_) | (refine RS.q rfl (QO.load ty107 (by rfl) (by repeat (first | exact List.Mem.head _ | refine List.Mem.tail _ ?_)) (by assumption)) ?_)
  refine RS.q rfl (QO.move) ?_
  refine RS.buildSlice rfl Tryd.underlying107 ty5 (by decide) (by decide) (by rfl) (by rfl) ?_
  intro g13
  refine RS.perm perm_w ?_
  refine RS.appendRow rfl Tryd.underlying107 ty5 (by rfl) hrow (.cons (.cons (suf_of HR))) (by rfl) (Src.blk (by repeat (first | exact List.Mem.head _ | refine List.Mem.tail _ ?_))) (by rfl) (by rfl) (by decide) (by decide) (by unfold maxLen; omega) (by omega) ?_
  intro v14 H14 hrow14
  have hx14 := hrow14.slice
  obtain ⟨A2, c2, hu2, hy2, hz2⟩ := hx14
  subst hu2
  refine RS.perm perm_w ?_
  refine RS.q rfl (QO.nilchk (by rfl)) ?_
  refine RS.q rfl (QO.fieldAddr fo109_1 (by rfl)) ?_
  refine RS.store1 ty107 rfl (by rfl) (by rfl) (by rfl) (by repeat (first | exact Upd.head | apply Upd.tail)) (by first | (simp; done) | (simp; omega) | omega) ?_
  refine RS.nil ?_
  refine thenC_n ?_
  refine CS.seq ?_
  refine CS.region ?_
  refine RS.q rfl (QO.assign) ?_
  refine RS.nil ?_
  refine thenC_n ?_
  refine CS.ret ?_
  refine retQ.mk (H' := ⟨g, 109, [.pointer (some ⟨g, 0, none⟩), .slice A2 (l.length + 1) c2]⟩ :: (H14 ++ HR)) (.inr rfl) (RVs.tmp (by rfl) RVs.nil) (by repeat (first | exact List.Sublist.refl _ | exact List.nil_sublist _ | refine List.Sublist.cons_cons _ ?_ | refine List.Sublist.cons _ ?_ | exact Sbp.refl | exact Sbp.nil | refine Sbp.cons (by repeat (first | exact Rem.head | apply Rem.tail)) ?_ | exact Sbp.app | refine Sbp.skip ?_ | exact List.sublist_append_left _ _ | exact List.sublist_append_right _ _)) ?_
  exact ⟨_, H14, rfl, rfl, by rw [List.length_append, bc_app]; exact hrow14⟩

end Go.Proofs.YtapcgokcfmklbaaDoor
