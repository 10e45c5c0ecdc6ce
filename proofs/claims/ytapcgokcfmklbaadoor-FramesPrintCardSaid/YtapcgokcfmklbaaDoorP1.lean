/-
  Contracts: numbers read. Conditions: as each theorem says.
-/
import Derived.Test.YtapcgokcfmklbaaDoorSpl
import Derived.Test.YtapcgokcfmklbaaDoorPu
import Derived.Test.YtapcgokcfmklbaaDoorC1
namespace Go.Proofs.YtapcgokcfmklbaaDoor
open Go Go.Proofs Go.RowKit

theorem ok76 : callOK Tryd.prog 76 = true := by kernel_rfl
theorem ok151 : callOK Tryd.prog 151 = true := by kernel_rfl
theorem ok152 : callOK Tryd.prog 152 = true := by kernel_rfl
theorem ok153 : callOK Tryd.prog 153 = true := by kernel_rfl
theorem ok194 : callOK Tryd.prog 194 = true := by kernel_rfl
theorem ok200 : callOK Tryd.prog 200 = true := by kernel_rfl
theorem ok224 : callOK Tryd.prog 224 = true := by kernel_rfl

theorem str_at {l : List UInt8} {i : Nat} (h : i < l.length) : l[((i : Nat) : Int).toNat]? = some (l.getD i 0) := by
  rw [Int.toNat_natCast, List.getD_eq_getElem?_getD, List.getElem?_eq_getElem h]; rfl
theorem cut1 {l : List UInt8} {i : Nat} (h : i < l.length) : sv ((l.take ((i : Int) + 1).toNat).drop (i : Int).toNat) = sv [l.getD i 0] := by
  congr 3
  rw [show ((i : Int) + 1).toNat = i + 1 by omega, show (i : Int).toNat = i by omega, take_snoc h, List.drop_append, List.drop_eq_nil_of_le (by rw [List.length_take]; exact Nat.min_le_left _ _)]
  rw [List.length_take, Nat.min_eq_left (by omega)]
  simp
theorem shor' {b : Nat} {k : Int} (hb : b < 268435456) (h0 : 0 ≤ k) (hk : k ≤ 15) : ib .or .u32 (IntKind.u32.wrap ((b : Int) * 2 ^ (min (4 : Int).toNat 32))) (IntKind.u32.wrap k) = .int .u32 ((b * 16 + k.toNat : Nat) : Int) := by
  obtain ⟨n, rfl⟩ : ∃ n : Nat, k = n := ⟨k.toNat, by omega⟩
  exact shor hb (by omega)
def hexVal (l : List UInt8) : Value := .tuple #[flt (hxV l), iv (hxE l)]
theorem hexV_e {l : List UInt8} {e : Int} (h : hxE l = e) (he : e ≠ 0) : Value.tuple #[flt 0, iv e] = hexVal l := by
  unfold hexVal hxV; rw [if_neg (by rw [h]; exact he), h]
theorem hexV_0 {l : List UInt8} (h : hxE l = 0) : Value.tuple #[flt (hexN l), iv 0] = hexVal l := by
  unfold hexVal hxV; rw [if_pos h, h]
theorem hexN_32 {l : List UInt8} (h : l.length = 8) : hexN l < 4294967296 := by
  have := hexN_lt l
  rw [h] at this
  exact this
theorem hexN_28 {l : List UInt8} {i : Nat} (hi : i < 8) : hexN (l.take i) < 268435456 := by
  have h1 := hexN_lt (l.take i)
  have h2 : 16 ^ (l.take i).length ≤ 16 ^ 7 := Nat.pow_le_pow_right (by omega) (by rw [List.length_take]; omega)
  omega
theorem u32_id {n : Nat} (h : n < 4294967296) : IntKind.u32.wrap (n : Int) = n := by rw [IntKind.wrap_u32]; omega
theorem parseU (l : List UInt8) (W : World) (hl : l.length = 8) (hb : hexB l = true) : Fn_ Tryd.prog 200 #[sv l, iv 16, iv 32] W (fun v H => v = .tuple #[.int .u64 (hexN l), .nilIface] ∧ H = []) := by
  refine Calls.mono (parseUint16 l hl hb W) ?_
  rintro x w' ⟨rfl, rfl⟩
  exact ⟨_, _, rfl, own_below (Joins.below_bytesWorld _ W 5 _ (Nat.le_refl _)), rfl, rfl⟩

set_option maxRecDepth 100000 in
theorem idxB0 (l : List UInt8) (c : Int) (W : World) : Fn_ Tryd.prog 224 #[sv l, .int .u8 c] W (fun v H => v = iv (Lib.indexByte l c.toNat.toUInt8) ∧ H = []) := by
  refine Fn_.intro Tryd.func224 rfl rfl (by rfl) ?_
  refine CS.seq ?_
  refine CS.region ?_
  refine RS.q rfl (QO.assign) ?_
  refine RS.nil ?_
  refine thenC_n ?_
  refine CS.seq ?_
  refine CS.region ?_
  refine RS.q rfl (QO.move) ?_
  refine RS.q rfl (QO.move) ?_
  refine RS.q rfl (QO.ext (by rfl) (ext247 _)) ?_
  refine RS.q rfl (QO.assign) ?_
  refine RS.nil ?_
  refine thenC_n ?_
  refine CS.ret ?_
  refine retQ.mk (H' := []) (.inr rfl) (RVs.tmp (by rfl) RVs.nil) (List.nil_sublist _) ?_
  exact ⟨rfl, rfl⟩

set_option maxRecDepth 100000 in
theorem idxB (l : List UInt8) (c : Int) (W : World) : Fn_ Tryd.prog 194 #[sv l, .int .u8 c] W (fun v H => v = iv (Lib.indexByte l c.toNat.toUInt8) ∧ H = []) := by
  refine Fn_.intro Tryd.func194 rfl rfl (by rfl) ?_
  refine CS.seq ?_
  refine CS.region ?_
  refine RS.q rfl (QO.assign) ?_
  refine RS.nil ?_
  refine thenC_n ?_
  refine CS.seq ?_
  refine CS.region ?_
  refine RS.q rfl (QO.move) ?_
  refine RS.q rfl (QO.move) ?_
  refine RS.call rfl (by rfl) ok224 (by rfl) (fun w ho => idxB0 _ _ _) ?_
  rintro _ _ ⟨rfl, rfl⟩
  refine RS.q rfl (QO.assign) ?_
  refine RS.nil ?_
  refine thenC_n ?_
  refine CS.ret ?_
  refine retQ.mk (H' := []) (.inr rfl) (RVs.tmp (by rfl) RVs.nil) (List.nil_sublist _) ?_
  exact ⟨rfl, rfl⟩

theorem idxH (c : UInt8) (W : World) : Fn_ Tryd.prog 194 #[sv digs, .int .u8 (c.toNat : Int)] W (fun v H => v = iv (hx c) ∧ H = []) := by
  have h := idxB digs (c.toNat : Int) W
  rw [Int.toNat_natCast, show c.toNat.toUInt8 = c by simp] at h
  exact h

set_option maxRecDepth 100000 in
theorem parseU_ (l : List UInt8) (W : World) (hl : l.length = 8) (hb : hexB l = true) : Fn_ Tryd.prog 153 #[sv l, iv 16, iv 32] W (fun v H => v = .tuple #[.int .u64 (hexN l), .nilIface] ∧ H = []) := by
  refine Fn_.intro Tryd.func153 rfl rfl (by rfl) ?_
  refine CS.seq ?_
  refine CS.region ?_
  refine RS.q rfl (QO.assign) ?_
  refine RS.q rfl (QO.assign) ?_
  refine RS.nil ?_
  refine thenC_n ?_
  refine CS.seq ?_
  refine CS.region ?_
  refine RS.q rfl (QO.move) ?_
  refine RS.q rfl (QO.move) ?_
  refine RS.q rfl (QO.move) ?_
  refine RS.call rfl (by rfl) ok200 (by rfl) (fun w ho => parseU l _ hl hb) ?_
  rintro _ _ ⟨rfl, rfl⟩
  refine RS.q rfl (QO.move) ?_
  refine RS.q rfl (QO.extract (by rfl) (by rfl)) ?_
  refine RS.q rfl (QO.extract (by rfl) (by rfl)) ?_
  refine RS.q rfl (QO.assign) ?_
  refine RS.q rfl (QO.assign) ?_
  refine RS.nil ?_
  refine thenC_n ?_
  refine CS.seq ?_
  refine CS.seq ?_
  refine CS.region ?_
  refine RS.q rfl (QO.move) ?_
  refine RS.q rfl (QO.nilNF meth111 (by rfl)) ?_
  refine RS.nil ?_
  refine thenC_n ?_
  refine CS.condF (by rfl) rfl ?_
  refine CS.skip ?_
  refine thenC_n ?_
  refine CS.seq ?_
  refine CS.region ?_
  refine RS.q rfl (QO.move) ?_
  refine RS.q rfl (QO.assign) ?_
  refine RS.q rfl (QO.assign) ?_
  refine RS.nil ?_
  refine thenC_n ?_
  refine CS.ret ?_
  refine retQ.mk (H' := []) (.inr rfl) (RVs.tmp (by rfl) (RVs.tmp (by rfl) RVs.nil)) (List.nil_sublist _) ?_
  exact ⟨rfl, rfl⟩

set_option maxRecDepth 100000 in
theorem integerT (l : List UInt8) (n : Int) (W : World) (h : Lib.atoiAll l = .ok n) (hl : l.length < 4294967281) (ht : Lib.TabIs Tryd.prog W "internal/strconv.uint64pow10" .u64 Lib.pow10Tab) : Fn_ Tryd.prog 148 #[sv l] W (fun v H => v = .tuple #[iv n, .bool (Lib.itoa n == l)] ∧ H = []) := by
  refine Fn_.intro Tryd.func148 rfl rfl (by rfl) ?_
  refine CS.seq ?_
  refine CS.region ?_
  refine RS.q rfl (QO.assign) ?_
  refine RS.q rfl (QO.assign) ?_
  refine RS.nil ?_
  refine thenC_n ?_
  refine CS.seq ?_
  refine CS.region ?_
  refine RS.q rfl (QO.move) ?_
  refine RS.call rfl (by rfl) ok151 (by rfl) (fun w ho => atoiT l n _ h hl) ?_
  rintro _ _ ⟨rfl, rfl⟩
  refine RS.q rfl (QO.move) ?_
  refine RS.q rfl (QO.extract (by rfl) (by rfl)) ?_
  refine RS.q rfl (QO.extract (by rfl) (by rfl)) ?_
  refine RS.q rfl (QO.assign) ?_
  refine RS.q rfl (QO.assign) ?_
  refine RS.nil ?_
  refine thenC_n ?_
  refine CS.seq ?_
  refine CS.region ?_
  refine RS.q rfl (QO.move) ?_
  refine RS.q rfl (QO.move) ?_
  refine RS.q rfl (QO.nilT meth111 (by rfl)) ?_
  refine RS.q rfl (QO.move) ?_
  refine RS.on (dj := 14) rfl (congrArg Value.bool rfl) ?_
  refine RS.q rfl (QO.move) ?_
  refine RS.on (dj := 14) rfl (congrArg Value.bool rfl) ?_
  refine RS.call rfl (by rfl) ok76 (by rfl) (fun w ho => itoaC n _ (atoi_bd h) (ho.tab (g := 2) (by kernel_rfl) ht)) ?_
  rintro _ _ ⟨rfl, rfl⟩
  refine RS.on (dj := 14) rfl (congrArg Value.bool rfl) ?_
  refine RS.q rfl (QO.move) ?_
  refine RS.on (dj := 14) rfl (congrArg Value.bool rfl) ?_
  refine RS.q rfl (QO.streq (by rfl) (by rfl)) ?_
  refine RS.q rfl (QO.pickT (by rfl) rfl (by rfl)) ?_
  refine RS.q rfl (QO.assign) ?_
  refine RS.q rfl (QO.assign) ?_
  refine RS.nil ?_
  refine thenC_n ?_
  refine CS.ret ?_
  refine retQ.mk (H' := []) (.inr rfl) (RVs.tmp (by rfl) (RVs.tmp (by rfl) RVs.nil)) (List.nil_sublist _) ?_
  exact ⟨rfl, rfl⟩

set_option maxRecDepth 100000 in
theorem integerF (l : List UInt8) (te3 : TypeId) (pe3 : Value) (te4 : TypeId) (pe4 : Value) (W : World) (h : ∀ n, Lib.atoiAll l ≠ .ok n) (hl : l.length < 4294967281) (h3 : W.cell? ⟨3, 0, none⟩ = some (.iface te3 pe3)) (h4 : W.cell? ⟨4, 0, none⟩ = some (.iface te4 pe4)) : Fn_ Tryd.prog 148 #[sv l] W (fun v H => ∃ x : Int, v = .tuple #[iv x, .bool false] ∧ H = []) := by
  refine Fn_.intro Tryd.func148 rfl rfl (by rfl) ?_
  refine CS.seq ?_
  refine CS.region ?_
  refine RS.q rfl (QO.assign) ?_
  refine RS.q rfl (QO.assign) ?_
  refine RS.nil ?_
  refine thenC_n ?_
  refine CS.seq ?_
  refine CS.region ?_
  refine RS.q rfl (QO.move) ?_
  refine RS.call rfl (by rfl) ok151 (by rfl) (fun w ho => atoiF l te3 pe3 te4 pe4 _ h hl (ho.old h3) (ho.old h4)) ?_
  rintro _ _ ⟨x8, y8, z8, rfl, rfl⟩
  refine RS.q rfl (QO.move) ?_
  refine RS.q rfl (QO.extract (by rfl) (by rfl)) ?_
  refine RS.q rfl (QO.extract (by rfl) (by rfl)) ?_
  refine RS.q rfl (QO.assign) ?_
  refine RS.q rfl (QO.assign) ?_
  refine RS.nil ?_
  refine thenC_n ?_
  refine CS.seq ?_
  refine CS.region ?_
  refine RS.q rfl (QO.move) ?_
  refine RS.q rfl (QO.move) ?_
  refine RS.q rfl (QO.nilF meth111 (by rfl)) ?_
  refine RS.q rfl (QO.move) ?_
  refine RS.off (dj := 14) rfl (.inl (congrArg Value.bool rfl)) (fun _ => rfl) rfl ?_
  refine RS.off (dj := 14) rfl (.inl (congrArg Value.bool rfl)) (fun _ => rfl) rfl ?_
  refine RS.off (dj := 14) rfl (.inl (congrArg Value.bool rfl)) (fun _ => rfl) rfl ?_
  refine RS.off (dj := 14) rfl (.inl (congrArg Value.bool rfl)) (fun _ => rfl) rfl ?_
  refine RS.q rfl (QO.pickF (by rfl) rfl (by rfl)) ?_
  refine RS.q rfl (QO.assign) ?_
  refine RS.q rfl (QO.assign) ?_
  refine RS.nil ?_
  refine thenC_n ?_
  refine CS.ret ?_
  refine retQ.mk (H' := []) (.inr rfl) (RVs.tmp (by rfl) (RVs.tmp (by rfl) RVs.nil)) (List.nil_sublist _) ?_
  exact ⟨_, rfl, rfl⟩

theorem integer_ (l : List UInt8) (te3 : TypeId) (pe3 : Value) (te4 : TypeId) (pe4 : Value) (W : World) (hl : l.length < 4294967281) (ht : Lib.TabIs Tryd.prog W "internal/strconv.uint64pow10" .u64 Lib.pow10Tab) (h3 : W.cell? ⟨3, 0, none⟩ = some (.iface te3 pe3)) (h4 : W.cell? ⟨4, 0, none⟩ = some (.iface te4 pe4)) :
    Fn_ Tryd.prog 148 #[sv l] W (fun v H => ∃ x : Int, v = .tuple #[iv x, .bool (intB l)] ∧ (intB l = true → x = intV l) ∧ H = []) := by
  by_cases h : ∃ n, Lib.atoiAll l = .ok n
  · obtain ⟨n, hn⟩ := h
    refine (integerT l n W hn hl ht).mono fun v H hv => ?_
    obtain ⟨rfl, rfl⟩ := hv
    exact ⟨n, by unfold intB; rw [hn], fun _ => by unfold intV; rw [hn], rfl⟩
  · refine (integerF l te3 pe3 te4 pe4 W (fun n hn => h ⟨n, hn⟩) hl h3 h4).mono fun v H hv => ?_
    obtain ⟨x, rfl, rfl⟩ := hv
    have hf : intB l = false := by
      unfold intB
      split
      · rename_i n hn; exact absurd ⟨n, hn⟩ h
      · rfl
    exact ⟨x, by rw [hf], fun e => by rw [hf] at e; (cases e), rfl⟩

set_option maxRecDepth 100000 in
theorem wholeT (l : List UInt8) (n : Int) (W : World) (h : Lib.atoiAll l = .ok n) (hl : l.length < 4294967281) (ht : Lib.TabIs Tryd.prog W "internal/strconv.uint64pow10" .u64 Lib.pow10Tab) : Fn_ Tryd.prog 121 #[sv l] W (fun v H => v = .tuple #[iv n, .bool (Lib.itoa n == l)] ∧ H = []) := by
  refine Fn_.intro Tryd.func121 rfl rfl (by rfl) ?_
  refine CS.seq ?_
  refine CS.region ?_
  refine RS.q rfl (QO.assign) ?_
  refine RS.q rfl (QO.assign) ?_
  refine RS.nil ?_
  refine thenC_n ?_
  refine CS.seq ?_
  refine CS.region ?_
  refine RS.q rfl (QO.move) ?_
  refine RS.call rfl (by rfl) ok151 (by rfl) (fun w ho => atoiT l n _ h hl) ?_
  rintro _ _ ⟨rfl, rfl⟩
  refine RS.q rfl (QO.move) ?_
  refine RS.q rfl (QO.extract (by rfl) (by rfl)) ?_
  refine RS.q rfl (QO.extract (by rfl) (by rfl)) ?_
  refine RS.q rfl (QO.assign) ?_
  refine RS.q rfl (QO.assign) ?_
  refine RS.nil ?_
  refine thenC_n ?_
  refine CS.seq ?_
  refine CS.region ?_
  refine RS.q rfl (QO.move) ?_
  refine RS.q rfl (QO.move) ?_
  refine RS.q rfl (QO.nilT meth111 (by rfl)) ?_
  refine RS.q rfl (QO.move) ?_
  refine RS.on (dj := 14) rfl (congrArg Value.bool rfl) ?_
  refine RS.q rfl (QO.move) ?_
  refine RS.on (dj := 14) rfl (congrArg Value.bool rfl) ?_
  refine RS.call rfl (by rfl) ok76 (by rfl) (fun w ho => itoaC n _ (atoi_bd h) (ho.tab (g := 2) (by kernel_rfl) ht)) ?_
  rintro _ _ ⟨rfl, rfl⟩
  refine RS.on (dj := 14) rfl (congrArg Value.bool rfl) ?_
  refine RS.q rfl (QO.move) ?_
  refine RS.on (dj := 14) rfl (congrArg Value.bool rfl) ?_
  refine RS.q rfl (QO.streq (by rfl) (by rfl)) ?_
  refine RS.q rfl (QO.pickT (by rfl) rfl (by rfl)) ?_
  refine RS.q rfl (QO.assign) ?_
  refine RS.q rfl (QO.assign) ?_
  refine RS.nil ?_
  refine thenC_n ?_
  refine CS.ret ?_
  refine retQ.mk (H' := []) (.inr rfl) (RVs.tmp (by rfl) (RVs.tmp (by rfl) RVs.nil)) (List.nil_sublist _) ?_
  exact ⟨rfl, rfl⟩

set_option maxRecDepth 100000 in
theorem wholeF (l : List UInt8) (te3 : TypeId) (pe3 : Value) (te4 : TypeId) (pe4 : Value) (W : World) (h : ∀ n, Lib.atoiAll l ≠ .ok n) (hl : l.length < 4294967281) (h3 : W.cell? ⟨3, 0, none⟩ = some (.iface te3 pe3)) (h4 : W.cell? ⟨4, 0, none⟩ = some (.iface te4 pe4)) : Fn_ Tryd.prog 121 #[sv l] W (fun v H => ∃ x : Int, v = .tuple #[iv x, .bool false] ∧ H = []) := by
  refine Fn_.intro Tryd.func121 rfl rfl (by rfl) ?_
  refine CS.seq ?_
  refine CS.region ?_
  refine RS.q rfl (QO.assign) ?_
  refine RS.q rfl (QO.assign) ?_
  refine RS.nil ?_
  refine thenC_n ?_
  refine CS.seq ?_
  refine CS.region ?_
  refine RS.q rfl (QO.move) ?_
  refine RS.call rfl (by rfl) ok151 (by rfl) (fun w ho => atoiF l te3 pe3 te4 pe4 _ h hl (ho.old h3) (ho.old h4)) ?_
  rintro _ _ ⟨x8, y8, z8, rfl, rfl⟩
  refine RS.q rfl (QO.move) ?_
  refine RS.q rfl (QO.extract (by rfl) (by rfl)) ?_
  refine RS.q rfl (QO.extract (by rfl) (by rfl)) ?_
  refine RS.q rfl (QO.assign) ?_
  refine RS.q rfl (QO.assign) ?_
  refine RS.nil ?_
  refine thenC_n ?_
  refine CS.seq ?_
  refine CS.region ?_
  refine RS.q rfl (QO.move) ?_
  refine RS.q rfl (QO.move) ?_
  refine RS.q rfl (QO.nilF meth111 (by rfl)) ?_
  refine RS.q rfl (QO.move) ?_
  refine RS.off (dj := 14) rfl (.inl (congrArg Value.bool rfl)) (fun _ => rfl) rfl ?_
  refine RS.off (dj := 14) rfl (.inl (congrArg Value.bool rfl)) (fun _ => rfl) rfl ?_
  refine RS.off (dj := 14) rfl (.inl (congrArg Value.bool rfl)) (fun _ => rfl) rfl ?_
  refine RS.off (dj := 14) rfl (.inl (congrArg Value.bool rfl)) (fun _ => rfl) rfl ?_
  refine RS.q rfl (QO.pickF (by rfl) rfl (by rfl)) ?_
  refine RS.q rfl (QO.assign) ?_
  refine RS.q rfl (QO.assign) ?_
  refine RS.nil ?_
  refine thenC_n ?_
  refine CS.ret ?_
  refine retQ.mk (H' := []) (.inr rfl) (RVs.tmp (by rfl) (RVs.tmp (by rfl) RVs.nil)) (List.nil_sublist _) ?_
  exact ⟨_, rfl, rfl⟩

theorem whole_ (l : List UInt8) (te3 : TypeId) (pe3 : Value) (te4 : TypeId) (pe4 : Value) (W : World) (hl : l.length < 4294967281) (ht : Lib.TabIs Tryd.prog W "internal/strconv.uint64pow10" .u64 Lib.pow10Tab) (h3 : W.cell? ⟨3, 0, none⟩ = some (.iface te3 pe3)) (h4 : W.cell? ⟨4, 0, none⟩ = some (.iface te4 pe4)) :
    Fn_ Tryd.prog 121 #[sv l] W (fun v H => ∃ x : Int, v = .tuple #[iv x, .bool (intB l)] ∧ (intB l = true → x = intV l) ∧ H = []) := by
  by_cases h : ∃ n, Lib.atoiAll l = .ok n
  · obtain ⟨n, hn⟩ := h
    refine (wholeT l n W hn hl ht).mono fun v H hv => ?_
    obtain ⟨rfl, rfl⟩ := hv
    exact ⟨n, by unfold intB; rw [hn], fun _ => by unfold intV; rw [hn], rfl⟩
  · refine (wholeF l te3 pe3 te4 pe4 W (fun n hn => h ⟨n, hn⟩) hl h3 h4).mono fun v H hv => ?_
    obtain ⟨x, rfl, rfl⟩ := hv
    have hf : intB l = false := by
      unfold intB
      split
      · rename_i n hn; exact absurd ⟨n, hn⟩ h
      · rfl
    exact ⟨x, by rw [hf], fun e => by rw [hf] at e; (cases e), rfl⟩

set_option maxHeartbeats 4000000 in
set_option maxRecDepth 100000 in
theorem parseHex (l : List UInt8) (W : World) : Fn_ Tryd.prog 149 #[sv l] W (fun v H => v = hexVal l ∧ H = []) := by
  refine Fn_.intro Tryd.func149 rfl rfl (by rfl) ?_
  refine CS.seq ?_
  refine CS.region ?_
  refine RS.q rfl (QO.assign) ?_
  refine RS.q rfl (QO.assign) ?_
  refine RS.nil ?_
  refine thenC_n ?_
  refine CS.seq ?_
  refine CS.seq ?_
  refine CS.region ?_
  refine RS.q rfl (QO.move) ?_
  refine RS.q rfl (QO.lenStr Tryd.underlying9 (by rfl)) ?_
  refine RS.q rfl (QO.neq (by rfl) (by rfl)) ?_
  refine RS.nil ?_
  refine thenC_n ?_
  refine CS.cond (by rfl) (fun hb0 => ?_) (fun hb0 => ?_)
  · have hb0p := bne_iff_ne.1 hb0
    refine CS.seq ?_
    refine CS.region ?_
    refine RS.q rfl (QO.assign) ?_
    refine RS.q rfl (QO.assign) ?_
    refine RS.nil ?_
    refine thenC_n ?_
    refine CS.ret ?_
    refine thenC_r ?_
    refine retQ.mk (H' := []) (.inr rfl) (RVs.tmp (by rfl) (RVs.tmp (by rfl) RVs.nil)) (List.nil_sublist _) ?_
    exact ⟨hexV_e (hxE_len (by omega)) (by decide), rfl⟩
  · have hb0p := of_bne_false hb0
    refine CS.skip ?_
    refine thenC_n ?_
    refine CS.seq ?_
    refine CS.region ?_
    refine RS.q rfl (QO.assign) ?_
    refine RS.nil ?_
    refine thenC_n ?_
    refine CS.seq ?_
    refine CS.seq ?_
    refine CS.region ?_
    refine RS.q rfl (QO.move) ?_
    refine RS.nil ?_
    refine thenC_n ?_
    refine CS.block ?_
    refine CS.loop (X := Nat) (2 :: 3 :: 4 :: 5 :: 6 :: 11 :: 12 :: 13 :: 14 :: 15 :: 16 :: 17 :: 18 :: 19 :: 20 :: 21 :: 22 :: 23 :: 24 :: 25 :: []) (fun i => [(11, iv (i : Int)), (4, .int .u32 ((hexN (l.take i) : Nat) : Int))]) (fun i => []) (fun i => i ≤ 8 ∧ ∀ j, j < i → 0 ≤ hx (l.getD j 0)) (fun i => 8 - i) 0 ⟨Nat.zero_le _, fun j hj => absurd hj (Nat.not_lt_zero _)⟩ ?_ ?_ ?_
    · exact (by repeat (first | exact kn_nil | refine kn_cons (by rfl) ?_))
    · exact (by repeat (first | exact List.Sublist.refl _ | exact List.nil_sublist _ | refine List.Sublist.cons_cons _ ?_ | refine List.Sublist.cons _ ?_ | exact Sbp.refl | exact Sbp.nil | refine Sbp.cons (by repeat (first | exact Rem.head | apply Rem.tail)) ?_ | exact Sbp.app | refine Sbp.skip ?_ | exact List.sublist_append_left _ _ | exact List.sublist_append_right _ _))
    · intro i gj5 hz
      obtain ⟨hi, hz⟩ := hz
      refine CS.seq ?_
      refine CS.region ?_
      refine RS.q rfl (QO.lss (by rfl) (by rfl)) ?_
      refine RS.nil ?_
      refine thenC_n ?_
      refine CS.seq ?_
      refine CS.cond (by rfl) (fun hb1 => ?_) (fun hb1 => ?_)
      · have hb1p := of_decide_eq_true hb1
        refine CS.skip ?_
        refine thenC_n ?_
        refine CS.seq ?_
        refine CS.block ?_
        refine CS.seq ?_
        refine CS.region ?_
        refine RS.q rfl (QO.move) ?_
        refine RS.q rfl (QO.assign) ?_
        refine RS.nil ?_
        refine thenC_n ?_
        refine CS.seq ?_
        refine CS.region ?_
        refine RS.q rfl (QO.move) ?_
        refine RS.q rfl (QO.move) ?_
        refine RS.q rfl (QO.idxStr Tryd.underlying9 (by rfl) (by rfl) (by omega) (str_at (show i < l.length by omega))) ?_
        refine RS.call rfl (by rfl) ok194 (by rfl) (fun w ho => idxH _ _) ?_
        rintro _ _ ⟨rfl, rfl⟩
        refine RS.q rfl (QO.assign) ?_
        refine RS.nil ?_
        refine thenC_n ?_
        refine CS.seq ?_
        refine CS.seq ?_
        refine CS.region ?_
        refine RS.q rfl (QO.move) ?_
        refine RS.q rfl (QO.lss (by rfl) (by rfl)) ?_
        refine RS.nil ?_
        refine thenC_n ?_
        refine CS.cond (by rfl) (fun hb2 => ?_) (fun hb2 => ?_)
        · have hb2p := of_decide_eq_true hb2
          refine CS.seq ?_
          refine CS.region ?_
          refine RS.q rfl (QO.assign) ?_
          refine RS.q rfl (QO.assign) ?_
          refine RS.nil ?_
          refine thenC_n ?_
          refine CS.ret ?_
          refine thenC_r ?_
          refine blockC_r ?_
          refine thenC_r ?_
          refine loopQ_r ?_
          refine blockC_r ?_
          refine thenC_r ?_
          refine retQ.mk (H' := []) (.inr rfl) (RVs.tmp (by rfl) (RVs.tmp (by rfl) RVs.nil)) (List.nil_sublist _) ?_
          exact ⟨hexV_e (hxE_bad (hexB_not (i := i) (by omega) hb2p)) (by decide), rfl⟩
        · have hb2p := of_decide_eq_false hb2
          refine CS.skip ?_
          refine thenC_n ?_
          refine CS.region ?_
          refine RS.q rfl (QO.move) ?_
          refine RS.q rfl (QO.shl2 (by rfl) (by rfl) (by decide)) ?_
          refine RS.q rfl (QO.move) ?_
          refine RS.q rfl (QO.conv_int Tryd.underlying3 Tryd.underlying101 (by rfl)) ?_
          refine RS.qv rfl (QO.ibin (by rfl) (by rfl) trivial) (shor' (hexN_28 (show i < 8 by omega)) (show 0 ≤ hx (l.getD i 0) by omega) (hx_bd _).2) ?_
          refine RS.q rfl (QO.assign) ?_
          refine RS.nil ?_
          refine blockC_n ?_
          refine thenC_n ?_
          refine CS.region ?_
          first | (refine RS.q rfl (QO.add (by rfl) (by rfl) (by omega) (by omega)) ?_) | (refine RS.q rfl (QO.ibin (by rfl) (by rfl) trivial) ?_)
          refine RS.q rfl (QO.move) ?_
          refine RS.nil ?_
          refine loopQ_n (by intro t ht; repeat (first | with_reducible exact rfl | exact frame_puts ht (frame_mix ht) _ rfl | (refine frame_put rfl ht ?_) | (refine frame_puts ht ?_ _ rfl) | exact frame_mix ht | (refine frame_mix2 rfl ht ?_) | exact rfl)) ?_
          have hge : 0 ≤ hx (l.getD i 0) := by omega
          exact ⟨i + 1, ⟨by omega, fun j hj => by
              by_cases e : j = i
              · rw [e]; exact hge
              · exact hz j (by omega)⟩, by omega, kn_cons (by rfl) (kn_cons (congrArg (fun n : Nat => Value.int .u32 (n : Int)) (by show hexN (l.take i) * 16 + hxN (l.getD i 0) = hexN (l.take (i + 1)); rw [take_snoc (by omega), hexN_snoc])) kn_nil), (by repeat (first | exact List.Sublist.refl _ | exact List.nil_sublist _ | refine List.Sublist.cons_cons _ ?_ | refine List.Sublist.cons _ ?_ | exact Sbp.refl | exact Sbp.nil | refine Sbp.cons (by repeat (first | exact Rem.head | apply Rem.tail)) ?_ | exact Sbp.app | refine Sbp.skip ?_ | exact List.sublist_append_left _ _ | exact List.sublist_append_right _ _))⟩
      · have hb1p := of_decide_eq_false hb1
        refine CS.exit ?_
        refine thenC_x ?_
        refine loopQ_x ?_
        refine blockC_x ?_
        refine thenC_n ?_
        refine CS.seq ?_
        refine CS.region ?_
        refine RS.q rfl (QO.move) ?_
        have hi8 : i = 8 := by omega
        have e8 : l.take i = l := List.take_of_length_le (by omega)
        refine RS.qv rfl (QO.ext (by rfl) (ext132 _)) (show flt ((hexN (l.take i) : Nat) : Int).toNat = flt (hexN l) from by rw [Int.toNat_natCast, e8]) ?_
        refine RS.q rfl (QO.assign) ?_
        refine RS.nil ?_
        refine thenC_n ?_
        refine CS.seq ?_
        refine CS.seq ?_
        refine CS.region ?_
        refine RS.q rfl (QO.move) ?_
        refine RS.q rfl (QO.move) ?_
        refine RS.q rfl (QO.fcmp32 (by rfl) (by rfl) (by simp)) ?_
        refine RS.q rfl (QO.move) ?_
        refine RS.split (dj := 31) (by rfl) (fun hb3 => ?_) (fun hb3 => ?_)
        · refine RS.on (dj := 31) rfl (congrArg Value.bool hb3) ?_
          refine RS.q rfl (QO.move) ?_
          refine RS.on (dj := 31) rfl (congrArg Value.bool hb3) ?_
          refine RS.qv rfl (QO.neq (by rfl) (by rfl)) (show Value.bool (((hexN (l.take i) : Nat) : Int) != 2143289344) = .bool (((hexN l : Nat) : Int) != 2143289344) from by rw [e8]) ?_
          refine RS.q rfl (QO.pickT (by rfl) hb3 (by rfl)) ?_
          refine RS.nil ?_
          refine thenC_n ?_
          refine CS.cond (by rfl) (fun hb4 => ?_) (fun hb4 => ?_)
          · have hb4p := bne_iff_ne.1 hb4
            refine CS.seq ?_
            refine CS.region ?_
            refine RS.q rfl (QO.assign) ?_
            refine RS.q rfl (QO.assign) ?_
            refine RS.nil ?_
            refine thenC_n ?_
            refine CS.ret ?_
            refine thenC_r ?_
            refine retQ.mk (H' := []) (.inr rfl) (RVs.tmp (by rfl) (RVs.tmp (by rfl) RVs.nil)) (List.nil_sublist _) ?_
            exact ⟨hexV_e (hxE_nan (by omega) (hexB_all fun j hj => hz j (by omega)) ((fneq_self _).symm.trans hb3) (fun e => hb4p (by rw [e]; rfl))) (by decide), rfl⟩
          · have hb4p := of_bne_false hb4
            refine CS.skip ?_
            refine thenC_n ?_
            refine CS.seq ?_
            refine CS.region ?_
            refine RS.q rfl (QO.move) ?_
            refine RS.q rfl (QO.assign) ?_
            refine RS.q rfl (QO.assign) ?_
            refine RS.nil ?_
            refine thenC_n ?_
            refine CS.ret ?_
            refine retQ.mk (H' := []) (.inr rfl) (RVs.tmp (by rfl) (RVs.tmp (by rfl) RVs.nil)) (List.nil_sublist _) ?_
            exact ⟨hexV_0 (hxE_ok (by omega) (hexB_all fun j hj => hz j (by omega)) (fun h => h.2 (by omega))), rfl⟩
        · refine RS.off (dj := 31) rfl (.inl (congrArg Value.bool hb3)) (fun _ => rfl) rfl ?_
          refine RS.off (dj := 31) rfl (.inl (congrArg Value.bool hb3)) (fun _ => rfl) rfl ?_
          refine RS.q rfl (QO.pickF (by rfl) hb3 (by rfl)) ?_
          refine RS.nil ?_
          refine thenC_n ?_
          refine CS.condF (by rfl) rfl ?_
          refine CS.skip ?_
          refine thenC_n ?_
          refine CS.seq ?_
          refine CS.region ?_
          refine RS.q rfl (QO.move) ?_
          refine RS.q rfl (QO.assign) ?_
          refine RS.q rfl (QO.assign) ?_
          refine RS.nil ?_
          refine thenC_n ?_
          refine CS.ret ?_
          refine retQ.mk (H' := []) (.inr rfl) (RVs.tmp (by rfl) (RVs.tmp (by rfl) RVs.nil)) (List.nil_sublist _) ?_
          exact ⟨hexV_0 (hxE_ok (by omega) (hexB_all fun j hj => hz j (by omega)) (fun h => by rw [← fneq_self, hb3] at h; cases h.1)), rfl⟩

set_option maxHeartbeats 4000000 in
set_option maxRecDepth 100000 in
theorem hexSingle (l : List UInt8) (W : World) : Fn_ Tryd.prog 122 #[sv l] W (fun v H => v = hexVal l ∧ H = []) := by
  refine Fn_.intro Tryd.func122 rfl rfl (by rfl) ?_
  refine CS.seq ?_
  refine CS.region ?_
  refine RS.q rfl (QO.assign) ?_
  refine RS.q rfl (QO.assign) ?_
  refine RS.nil ?_
  refine thenC_n ?_
  refine CS.seq ?_
  refine CS.seq ?_
  refine CS.region ?_
  refine RS.q rfl (QO.move) ?_
  refine RS.q rfl (QO.lenStr Tryd.underlying9 (by rfl)) ?_
  refine RS.q rfl (QO.neq (by rfl) (by rfl)) ?_
  refine RS.nil ?_
  refine thenC_n ?_
  refine CS.cond (by rfl) (fun hb0 => ?_) (fun hb0 => ?_)
  · have hb0p := bne_iff_ne.1 hb0
    refine CS.seq ?_
    refine CS.region ?_
    refine RS.q rfl (QO.assign) ?_
    refine RS.q rfl (QO.assign) ?_
    refine RS.nil ?_
    refine thenC_n ?_
    refine CS.ret ?_
    refine thenC_r ?_
    refine retQ.mk (H' := []) (.inr rfl) (RVs.tmp (by rfl) (RVs.tmp (by rfl) RVs.nil)) (List.nil_sublist _) ?_
    exact ⟨hexV_e (hxE_len (by omega)) (by decide), rfl⟩
  · have hb0p := of_bne_false hb0
    refine CS.skip ?_
    refine thenC_n ?_
    refine CS.seq ?_
    refine CS.seq ?_
    refine CS.region ?_
    refine RS.q rfl (QO.move) ?_
    refine RS.q rfl (QO.lenStr Tryd.underlying9 (by rfl)) ?_
    refine RS.q rfl (QO.move) ?_
    refine RS.nil ?_
    refine thenC_n ?_
    refine CS.block ?_
    refine CS.loop (X := Nat) (2 :: 3 :: 4 :: 13 :: 14 :: 15 :: 16 :: 17 :: 18 :: 19 :: 20 :: 21 :: 22 :: 23 :: []) (fun i => [(13, iv (i : Int))]) (fun i => []) (fun i => i ≤ 8 ∧ ∀ j, j < i → 0 ≤ hx (l.getD j 0)) (fun i => 8 - i) 0 ⟨Nat.zero_le _, fun j hj => absurd hj (Nat.not_lt_zero _)⟩ ?_ ?_ ?_
    · exact (by repeat (first | exact kn_nil | refine kn_cons (by rfl) ?_))
    · exact (by repeat (first | exact List.Sublist.refl _ | exact List.nil_sublist _ | refine List.Sublist.cons_cons _ ?_ | refine List.Sublist.cons _ ?_ | exact Sbp.refl | exact Sbp.nil | refine Sbp.cons (by repeat (first | exact Rem.head | apply Rem.tail)) ?_ | exact Sbp.app | refine Sbp.skip ?_ | exact List.sublist_append_left _ _ | exact List.sublist_append_right _ _))
    · intro i gj4 hz
      obtain ⟨hi, hz⟩ := hz
      refine CS.seq ?_
      refine CS.region ?_
      refine RS.q rfl (QO.lss (by rfl) (by rfl)) ?_
      refine RS.nil ?_
      refine thenC_n ?_
      refine CS.seq ?_
      refine CS.cond (by rfl) (fun hb1 => ?_) (fun hb1 => ?_)
      · have hb1p := of_decide_eq_true hb1
        refine CS.skip ?_
        refine thenC_n ?_
        refine CS.seq ?_
        refine CS.block ?_
        refine CS.seq ?_
        refine CS.region ?_
        refine RS.q rfl (QO.move) ?_
        refine RS.q rfl (QO.assign) ?_
        refine RS.nil ?_
        refine thenC_n ?_
        refine CS.seq ?_
        refine CS.region ?_
        refine RS.q rfl (QO.move) ?_
        refine RS.q rfl (QO.move) ?_
        refine RS.q rfl (QO.move) ?_
        first | (refine RS.q rfl (QO.add (by rfl) (by rfl) (by omega) (by omega)) ?_) | (refine RS.q rfl (QO.ibin (by rfl) (by rfl) trivial) ?_)
        refine RS.qv rfl (QO.cutStrLoHi Tryd.underlying9 (by rfl) (by rfl) (by rfl) (by omega) (by omega) (by omega)) (cut1 (show i < l.length by omega)) ?_
        refine RS.call rfl (by rfl) ok152 (by rfl) (fun w ho => containsC digs (l.getD i 0) _) ?_
        rintro _ _ ⟨rfl, rfl⟩
        refine RS.q rfl (QO.not (by rfl)) ?_
        refine RS.nil ?_
        refine thenC_n ?_
        refine CS.cond (by rfl) (fun hb2 => ?_) (fun hb2 => ?_)
        · have hb2p := Eq.mp (Bool.not_eq_true' _) hb2
          refine CS.seq ?_
          refine CS.region ?_
          refine RS.q rfl (QO.assign) ?_
          refine RS.q rfl (QO.assign) ?_
          refine RS.nil ?_
          refine thenC_n ?_
          refine CS.ret ?_
          refine blockC_r ?_
          refine thenC_r ?_
          refine loopQ_r ?_
          refine blockC_r ?_
          refine thenC_r ?_
          refine retQ.mk (H' := []) (.inr rfl) (RVs.tmp (by rfl) (RVs.tmp (by rfl) RVs.nil)) (List.nil_sublist _) ?_
          exact ⟨hexV_e (hxE_bad (hexB_not (i := i) (by omega) (by have := of_decide_eq_false hb2p; exact Int.not_le.1 this))) (by decide), rfl⟩
        · have hb2p := Eq.mp (Bool.not_eq_false' _) hb2
          refine CS.skip ?_
          refine blockC_n ?_
          refine thenC_n ?_
          refine CS.region ?_
          first | (refine RS.q rfl (QO.add (by rfl) (by rfl) (by omega) (by omega)) ?_) | (refine RS.q rfl (QO.ibin (by rfl) (by rfl) trivial) ?_)
          refine RS.q rfl (QO.move) ?_
          refine RS.nil ?_
          refine loopQ_n (by intro t ht; repeat (first | with_reducible exact rfl | exact frame_puts ht (frame_mix ht) _ rfl | (refine frame_put rfl ht ?_) | (refine frame_puts ht ?_ _ rfl) | exact frame_mix ht | (refine frame_mix2 rfl ht ?_) | exact rfl)) ?_
          have hge : 0 ≤ hx (l.getD i 0) := of_decide_eq_true hb2p
          exact ⟨i + 1, ⟨by omega, fun j hj => by
              by_cases e : j = i
              · rw [e]; exact hge
              · exact hz j (by omega)⟩, by omega, (by repeat (first | exact kn_nil | refine kn_cons (by rfl) ?_)), (by repeat (first | exact List.Sublist.refl _ | exact List.nil_sublist _ | refine List.Sublist.cons_cons _ ?_ | refine List.Sublist.cons _ ?_ | exact Sbp.refl | exact Sbp.nil | refine Sbp.cons (by repeat (first | exact Rem.head | apply Rem.tail)) ?_ | exact Sbp.app | refine Sbp.skip ?_ | exact List.sublist_append_left _ _ | exact List.sublist_append_right _ _))⟩
      · have hb1p := of_decide_eq_false hb1
        refine CS.exit ?_
        refine thenC_x ?_
        refine loopQ_x ?_
        refine blockC_x ?_
        refine thenC_n ?_
        refine CS.seq ?_
        refine CS.region ?_
        refine RS.q rfl (QO.move) ?_
        have hi8 : i = 8 := by omega
        have hl8 : l.length = 8 := by omega
        have hall : hexB l = true := hexB_all fun j hj => hz j (by omega)
        have h32 := hexN_32 hl8
        refine RS.call rfl (by rfl) ok153 (by rfl) (fun w ho => parseU_ l _ hl8 hall) ?_
        rintro _ _ ⟨rfl, rfl⟩
        refine RS.q rfl (QO.move) ?_
        refine RS.q rfl (QO.extract (by rfl) (by rfl)) ?_
        refine RS.q rfl (QO.extract (by rfl) (by rfl)) ?_
        refine RS.q rfl (QO.assign) ?_
        refine RS.q rfl (QO.assign) ?_
        refine RS.nil ?_
        refine thenC_n ?_
        refine CS.seq ?_
        refine CS.region ?_
        refine RS.q rfl (QO.move) ?_
        refine RS.qv rfl (QO.conv_int Tryd.underlying202 Tryd.underlying101 (by rfl)) (congrArg (Value.int .u32) (u32_id h32)) ?_
        refine RS.qv rfl (QO.ext (by rfl) (ext132 _)) (congrArg flt (Int.toNat_natCast (hexN l))) ?_
        refine RS.q rfl (QO.assign) ?_
        refine RS.nil ?_
        refine thenC_n ?_
        refine CS.seq ?_
        refine CS.seq ?_
        refine CS.region ?_
        refine RS.q rfl (QO.move) ?_
        refine RS.q rfl (QO.move) ?_
        refine RS.q rfl (QO.fcmp32 (by rfl) (by rfl) (by simp)) ?_
        refine RS.q rfl (QO.move) ?_
        refine RS.split (dj := 35) (by rfl) (fun hb3 => ?_) (fun hb3 => ?_)
        · refine RS.on (dj := 35) rfl (congrArg Value.bool hb3) ?_
          refine RS.q rfl (QO.move) ?_
          refine RS.on (dj := 35) rfl (congrArg Value.bool hb3) ?_
          refine RS.qv rfl (QO.conv_int Tryd.underlying202 Tryd.underlying101 (by rfl)) (congrArg (Value.int .u32) (u32_id h32)) ?_
          refine RS.on (dj := 35) rfl (congrArg Value.bool hb3) ?_
          refine RS.q rfl (QO.neq (by rfl) (by rfl)) ?_
          refine RS.q rfl (QO.pickT (by rfl) hb3 (by rfl)) ?_
          refine RS.nil ?_
          refine thenC_n ?_
          refine CS.cond (by rfl) (fun hb4 => ?_) (fun hb4 => ?_)
          · have hb4p := bne_iff_ne.1 hb4
            refine CS.seq ?_
            refine CS.region ?_
            refine RS.q rfl (QO.assign) ?_
            refine RS.q rfl (QO.assign) ?_
            refine RS.nil ?_
            refine thenC_n ?_
            refine CS.ret ?_
            refine thenC_r ?_
            refine retQ.mk (H' := []) (.inr rfl) (RVs.tmp (by rfl) (RVs.tmp (by rfl) RVs.nil)) (List.nil_sublist _) ?_
            exact ⟨hexV_e (hxE_nan (by omega) (hexB_all fun j hj => hz j (by omega)) ((fneq_self _).symm.trans hb3) (fun e => hb4p (by rw [e]; rfl))) (by decide), rfl⟩
          · have hb4p := of_bne_false hb4
            refine CS.skip ?_
            refine thenC_n ?_
            refine CS.seq ?_
            refine CS.region ?_
            refine RS.q rfl (QO.move) ?_
            refine RS.q rfl (QO.assign) ?_
            refine RS.q rfl (QO.assign) ?_
            refine RS.nil ?_
            refine thenC_n ?_
            refine CS.ret ?_
            refine retQ.mk (H' := []) (.inr rfl) (RVs.tmp (by rfl) (RVs.tmp (by rfl) RVs.nil)) (List.nil_sublist _) ?_
            exact ⟨hexV_0 (hxE_ok (by omega) (hexB_all fun j hj => hz j (by omega)) (fun h => h.2 (by omega))), rfl⟩
        · refine RS.off (dj := 35) rfl (.inl (congrArg Value.bool hb3)) (fun _ => rfl) rfl ?_
          refine RS.off (dj := 35) rfl (.inl (congrArg Value.bool hb3)) (fun _ => rfl) rfl ?_
          refine RS.off (dj := 35) rfl (.inl (congrArg Value.bool hb3)) (fun _ => rfl) rfl ?_
          refine RS.q rfl (QO.pickF (by rfl) hb3 (by rfl)) ?_
          refine RS.nil ?_
          refine thenC_n ?_
          refine CS.condF (by rfl) rfl ?_
          refine CS.skip ?_
          refine thenC_n ?_
          refine CS.seq ?_
          refine CS.region ?_
          refine RS.q rfl (QO.move) ?_
          refine RS.q rfl (QO.assign) ?_
          refine RS.q rfl (QO.assign) ?_
          refine RS.nil ?_
          refine thenC_n ?_
          refine CS.ret ?_
          refine retQ.mk (H' := []) (.inr rfl) (RVs.tmp (by rfl) (RVs.tmp (by rfl) RVs.nil)) (List.nil_sublist _) ?_
          exact ⟨hexV_0 (hxE_ok (by omega) (hexB_all fun j hj => hz j (by omega)) (fun h => by rw [← fneq_self, hb3] at h; cases h.1)), rfl⟩

end Go.Proofs.YtapcgokcfmklbaaDoor
