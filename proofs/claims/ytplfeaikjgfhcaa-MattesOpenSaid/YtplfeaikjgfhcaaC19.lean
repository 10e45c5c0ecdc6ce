/-
  Contracts: MattesOpen. Conditions: as each theorem says.
-/
import Derived.Test.YtplfeaikjgfhcaaC18
namespace Go.Proofs.Ytplfeaikjgfhcaa
open Go Go.Proofs Go.RowKit

theorem ok56 : callOK Try.prog 56 = true := by kernel_rfl
theorem ok143 : callOK Try.prog 143 = true := by kernel_rfl

set_option maxRecDepth 100000 in
theorem around_e1 (X Y : Int) (a b : Nat) (A : Option Addr) (n c : Nat) (xs : List Nat) (r : Nat) (fc : FuncId) (cap : Array Value) (W : World) (hn : xs.length = n) (hA : FS W A xs) (hN : n = a * b) (hc : n ≤ c) (hcm : c ≤ maxLen) (hre : mErr X Y a b n = 0) (hX : -1048576 ≤ X ∧ X ≤ 1048576) (hY : -1048576 ≤ Y ∧ Y ≤ 1048576) (ha : 1 ≤ a ∧ a ≤ 256) (hb : 1 ≤ b ∧ b ≤ 256) (hr : r ≤ 16) (he : a ≤ 2 * r) : Fn_ Try.prog 143 #[.agg #[iv X, iv Y, iv (a : Int), iv (b : Int), .slice A n c], iv (r : Int), .func (.func fc) #[] cap] W (fun v H => v = .tuple #[.agg #[iv 0, iv 0, iv 0, iv 0, .slice none 0 0], iv 10] ∧ H = []) := by
  refine Fn_.intro Try.func143 rfl rfl (by rfl) ?_
  refine CS.seq ?_
  refine CS.region ?_
  refine RS.box rfl (by rfl) (by rfl) ?_
  intro g3
  refine RS.alloc rfl ty64 ?_
  intro g6
  refine RS.q rfl (QO.assign) ?_
  refine RS.nil ?_
  refine thenC_n ?_
  refine CS.seq ?_
  refine CS.seq ?_
  refine CS.region ?_
  first | (refine RS.q rfl (QO.loadB ty64 (by rfl) (by repeat (first | exact List.Mem.head _ | refine List.Mem.tail _ ?_)) (by rfl)) ?_) | (refine RS.q rfl (QO.loadA ty64 (by rfl) (by repeat (first | exact List.Mem.head _ | refine List.Mem.tail _ ?_)) (by rfl) (by rfl)) ?_) | (refine RS.q rfl (QO.loadOA ty64 (by rfl) (by assumption) (by rfl)) ?_)
  refine RS.call rfl (by rfl) ok47 (by rfl) (fun w ho => kcheckMatte _ _ _ _ _ _ _ _) ?_
  rintro _ _ ⟨rfl, rfl⟩
  refine RS.q rfl (QO.assign) ?_
  refine RS.nil ?_
  refine thenC_n ?_
  refine CS.seq ?_
  refine CS.region ?_
  refine RS.q rfl (QO.move) ?_
  refine RS.qv rfl (QO.neq (by rfl) (by rfl)) (congrArg Value.bool (show (mErr X Y (a : Int) (b : Int) n != 0) = false from by rw [hre]; rfl)) ?_
  refine RS.nil ?_
  refine thenC_n ?_
  refine CS.condF (by rfl) rfl ?_
  refine CS.skip ?_
  refine thenC_n ?_
  refine CS.seq ?_
  refine CS.seq ?_
  refine CS.region ?_
  refine RS.q rfl (QO.move) ?_
  refine RS.q rfl (QO.lss (by rfl) (by rfl)) ?_
  refine RS.q rfl (QO.move) ?_
  refine RS.on (dj := 24) rfl (congrArg Value.bool (decide_eq_false (by omega))) ?_
  refine RS.q rfl (QO.move) ?_
  refine RS.on (dj := 24) rfl (congrArg Value.bool (decide_eq_false (by omega))) ?_
  refine RS.q rfl (QO.gtr (by rfl) (by rfl)) ?_
  refine RS.q rfl (QO.pickF (by rfl) (decide_eq_false (by omega)) (by rfl)) ?_
  refine RS.nil ?_
  refine thenC_n ?_
  refine CS.condF (by rfl) (decide_eq_false (by omega)) ?_
  refine CS.skip ?_
  refine thenC_n ?_
  refine CS.seq ?_
  refine CS.region ?_
  refine RS.q rfl (QO.fieldAddr fo64_0 (by rfl)) ?_
  refine RS.q rfl (QO.fieldAddr fo23_0 (by rfl)) ?_
  first | (refine RS.q rfl (QO.load ty3 (by rfl) (by repeat (first | exact List.Mem.head _ | refine List.Mem.tail _ ?_)) (by rfl)) ?_) | (refine RS.q rfl (QO.loadO ty3 (by rfl) (by assumption)) ?_) | (refine RS.q rfl (QO.load ty3 (by rfl) (by repeat (first | exact List.Mem.head _ | refine List.Mem.tail _ ?_)) (by assumption)) ?_)
  refine RS.q rfl (QO.move) ?_
  first | (refine RS.q rfl (QO.add (by rfl) (by rfl) (by omega) (by omega)) ?_) | (refine RS.q rfl (QO.ibin (by rfl) (by rfl) trivial) ?_)
  refine RS.q rfl (QO.fieldAddr fo64_0 (by rfl)) ?_
  refine RS.q rfl (QO.fieldAddr fo23_1 (by rfl)) ?_
  first | (refine RS.q rfl (QO.load ty3 (by rfl) (by repeat (first | exact List.Mem.head _ | refine List.Mem.tail _ ?_)) (by rfl)) ?_) | (refine RS.q rfl (QO.loadO ty3 (by rfl) (by assumption)) ?_) | (refine RS.q rfl (QO.load ty3 (by rfl) (by repeat (first | exact List.Mem.head _ | refine List.Mem.tail _ ?_)) (by assumption)) ?_)
  refine RS.q rfl (QO.move) ?_
  first | (refine RS.q rfl (QO.add (by rfl) (by rfl) (by omega) (by omega)) ?_) | (refine RS.q rfl (QO.ibin (by rfl) (by rfl) trivial) ?_)
  refine RS.q rfl (QO.fieldAddr fo64_0 (by rfl)) ?_
  refine RS.q rfl (QO.fieldAddr fo23_2 (by rfl)) ?_
  first | (refine RS.q rfl (QO.load ty3 (by rfl) (by repeat (first | exact List.Mem.head _ | refine List.Mem.tail _ ?_)) (by rfl)) ?_) | (refine RS.q rfl (QO.loadO ty3 (by rfl) (by assumption)) ?_) | (refine RS.q rfl (QO.load ty3 (by rfl) (by repeat (first | exact List.Mem.head _ | refine List.Mem.tail _ ?_)) (by assumption)) ?_)
  refine RS.q rfl (QO.move) ?_
  first | (refine RS.q rfl (QO.mul (by rfl) (by rfl) (by omega) (by omega)) ?_) | (refine RS.q rfl (QO.ibin (by rfl) (by rfl) trivial) ?_)
  first | (refine RS.qv rfl (QO.sub (by rfl) (by rfl) (by omega) (by omega)) (congrArg iv (show (a : Int) - 2 * (r : Int) = (a : Int) - 2 * (r : Int) from rfl)) ?_) | (refine RS.qv rfl (QO.ibin (by rfl) (by rfl) trivial) (congrArg iv (show (a : Int) - 2 * (r : Int) = (a : Int) - 2 * (r : Int) from rfl)) ?_)
  refine RS.q rfl (QO.fieldAddr fo64_0 (by rfl)) ?_
  refine RS.q rfl (QO.fieldAddr fo23_3 (by rfl)) ?_
  first | (refine RS.q rfl (QO.load ty3 (by rfl) (by repeat (first | exact List.Mem.head _ | refine List.Mem.tail _ ?_)) (by rfl)) ?_) | (refine RS.q rfl (QO.loadO ty3 (by rfl) (by assumption)) ?_) | (refine RS.q rfl (QO.load ty3 (by rfl) (by repeat (first | exact List.Mem.head _ | refine List.Mem.tail _ ?_)) (by assumption)) ?_)
  refine RS.q rfl (QO.move) ?_
  first | (refine RS.q rfl (QO.mul (by rfl) (by rfl) (by omega) (by omega)) ?_) | (refine RS.q rfl (QO.ibin (by rfl) (by rfl) trivial) ?_)
  first | (refine RS.q rfl (QO.sub (by rfl) (by rfl) (by omega) (by omega)) ?_) | (refine RS.q rfl (QO.ibin (by rfl) (by rfl) trivial) ?_)
  refine RS.q rfl (QO.build ty23 pl23 (by rfl)) ?_
  refine RS.alloc rfl ty23 ?_
  intro g9
  first | refine RS.storeB ty23 (by rfl) (by rfl) (by rfl) (by rfl) (by rfl) (by repeat (first | exact Upd.head | apply Upd.tail)) (by rfl) ?_ | refine RS.storeP ty23 (by rfl) (by rfl) (by rfl) (by rfl) (by rfl) (by repeat (first | exact Upd.head | apply Upd.tail)) (by rfl) ?_
  refine RS.nil ?_
  refine thenC_n ?_
  refine CS.seq ?_
  refine CS.seq ?_
  refine CS.region ?_
  refine RS.q rfl (QO.fieldAddr fo23_2 (by rfl)) ?_
  first | (refine RS.q rfl (QO.load ty3 (by rfl) (by repeat (first | exact List.Mem.head _ | refine List.Mem.tail _ ?_)) (by rfl)) ?_) | (refine RS.q rfl (QO.loadO ty3 (by rfl) (by assumption)) ?_) | (refine RS.q rfl (QO.load ty3 (by rfl) (by repeat (first | exact List.Mem.head _ | refine List.Mem.tail _ ?_)) (by assumption)) ?_)
  refine RS.q rfl (QO.lss (by rfl) (by rfl)) ?_
  refine RS.q rfl (QO.move) ?_
  refine RS.off (dj := 55) rfl (.inl (congrArg Value.bool (decide_eq_true (by omega)))) (fun _ => rfl) rfl ?_
  refine RS.off (dj := 55) rfl (.inl (congrArg Value.bool (decide_eq_true (by omega)))) (fun _ => rfl) rfl ?_
  refine RS.off (dj := 55) rfl (.inl (congrArg Value.bool (decide_eq_true (by omega)))) (fun _ => rfl) rfl ?_
  refine RS.q rfl (QO.pickT (by rfl) (decide_eq_true (by omega)) (by rfl)) ?_
  refine RS.nil ?_
  refine thenC_n ?_
  refine CS.condT (by rfl) rfl ?_
  refine CS.seq ?_
  refine CS.region ?_
  refine RS.q rfl (QO.build ty64 pl64 (by rfl)) ?_
  first | refine RS.storeB ty64 (by rfl) (by rfl) (by rfl) (by rfl) (by rfl) (by repeat (first | exact Upd.head | apply Upd.tail)) (by rfl) ?_ | refine RS.storeP ty64 (by rfl) (by rfl) (by rfl) (by rfl) (by rfl) (by repeat (first | exact Upd.head | apply Upd.tail)) (by rfl) ?_
  refine RS.q rfl (QO.assign) ?_
  refine RS.nil ?_
  refine thenC_n ?_
  refine CS.ret ?_
  refine thenC_r ?_
  refine retQ.mk (H' := []) (.inr rfl) (RVs.cellA ty64 (by rfl) (by repeat (first | exact List.Mem.head _ | refine List.Mem.tail _ ?_)) (by rfl) (RVs.tmp (by rfl) RVs.nil)) (List.nil_sublist _) ?_
  exact ⟨rfl, rfl⟩

set_option maxRecDepth 100000 in
theorem around_e2 (X Y : Int) (a b : Nat) (A : Option Addr) (n c : Nat) (xs : List Nat) (r : Nat) (fc : FuncId) (cap : Array Value) (W : World) (hn : xs.length = n) (hA : FS W A xs) (hN : n = a * b) (hc : n ≤ c) (hcm : c ≤ maxLen) (hre : mErr X Y a b n = 0) (hX : -1048576 ≤ X ∧ X ≤ 1048576) (hY : -1048576 ≤ Y ∧ Y ≤ 1048576) (ha : 1 ≤ a ∧ a ≤ 256) (hb : 1 ≤ b ∧ b ≤ 256) (hr : r ≤ 16) (he : 2 * r < a) (he2 : b ≤ 2 * r) : Fn_ Try.prog 143 #[.agg #[iv X, iv Y, iv (a : Int), iv (b : Int), .slice A n c], iv (r : Int), .func (.func fc) #[] cap] W (fun v H => v = .tuple #[.agg #[iv 0, iv 0, iv 0, iv 0, .slice none 0 0], iv 10] ∧ H = []) := by
  refine Fn_.intro Try.func143 rfl rfl (by rfl) ?_
  refine CS.seq ?_
  refine CS.region ?_
  refine RS.box rfl (by rfl) (by rfl) ?_
  intro g3
  refine RS.alloc rfl ty64 ?_
  intro g6
  refine RS.q rfl (QO.assign) ?_
  refine RS.nil ?_
  refine thenC_n ?_
  refine CS.seq ?_
  refine CS.seq ?_
  refine CS.region ?_
  first | (refine RS.q rfl (QO.loadB ty64 (by rfl) (by repeat (first | exact List.Mem.head _ | refine List.Mem.tail _ ?_)) (by rfl)) ?_) | (refine RS.q rfl (QO.loadA ty64 (by rfl) (by repeat (first | exact List.Mem.head _ | refine List.Mem.tail _ ?_)) (by rfl) (by rfl)) ?_) | (refine RS.q rfl (QO.loadOA ty64 (by rfl) (by assumption) (by rfl)) ?_)
  refine RS.call rfl (by rfl) ok47 (by rfl) (fun w ho => kcheckMatte _ _ _ _ _ _ _ _) ?_
  rintro _ _ ⟨rfl, rfl⟩
  refine RS.q rfl (QO.assign) ?_
  refine RS.nil ?_
  refine thenC_n ?_
  refine CS.seq ?_
  refine CS.region ?_
  refine RS.q rfl (QO.move) ?_
  refine RS.qv rfl (QO.neq (by rfl) (by rfl)) (congrArg Value.bool (show (mErr X Y (a : Int) (b : Int) n != 0) = false from by rw [hre]; rfl)) ?_
  refine RS.nil ?_
  refine thenC_n ?_
  refine CS.condF (by rfl) rfl ?_
  refine CS.skip ?_
  refine thenC_n ?_
  refine CS.seq ?_
  refine CS.seq ?_
  refine CS.region ?_
  refine RS.q rfl (QO.move) ?_
  refine RS.q rfl (QO.lss (by rfl) (by rfl)) ?_
  refine RS.q rfl (QO.move) ?_
  refine RS.on (dj := 24) rfl (congrArg Value.bool (decide_eq_false (by omega))) ?_
  refine RS.q rfl (QO.move) ?_
  refine RS.on (dj := 24) rfl (congrArg Value.bool (decide_eq_false (by omega))) ?_
  refine RS.q rfl (QO.gtr (by rfl) (by rfl)) ?_
  refine RS.q rfl (QO.pickF (by rfl) (decide_eq_false (by omega)) (by rfl)) ?_
  refine RS.nil ?_
  refine thenC_n ?_
  refine CS.condF (by rfl) (decide_eq_false (by omega)) ?_
  refine CS.skip ?_
  refine thenC_n ?_
  refine CS.seq ?_
  refine CS.region ?_
  refine RS.q rfl (QO.fieldAddr fo64_0 (by rfl)) ?_
  refine RS.q rfl (QO.fieldAddr fo23_0 (by rfl)) ?_
  first | (refine RS.q rfl (QO.load ty3 (by rfl) (by repeat (first | exact List.Mem.head _ | refine List.Mem.tail _ ?_)) (by rfl)) ?_) | (refine RS.q rfl (QO.loadO ty3 (by rfl) (by assumption)) ?_) | (refine RS.q rfl (QO.load ty3 (by rfl) (by repeat (first | exact List.Mem.head _ | refine List.Mem.tail _ ?_)) (by assumption)) ?_)
  refine RS.q rfl (QO.move) ?_
  first | (refine RS.q rfl (QO.add (by rfl) (by rfl) (by omega) (by omega)) ?_) | (refine RS.q rfl (QO.ibin (by rfl) (by rfl) trivial) ?_)
  refine RS.q rfl (QO.fieldAddr fo64_0 (by rfl)) ?_
  refine RS.q rfl (QO.fieldAddr fo23_1 (by rfl)) ?_
  first | (refine RS.q rfl (QO.load ty3 (by rfl) (by repeat (first | exact List.Mem.head _ | refine List.Mem.tail _ ?_)) (by rfl)) ?_) | (refine RS.q rfl (QO.loadO ty3 (by rfl) (by assumption)) ?_) | (refine RS.q rfl (QO.load ty3 (by rfl) (by repeat (first | exact List.Mem.head _ | refine List.Mem.tail _ ?_)) (by assumption)) ?_)
  refine RS.q rfl (QO.move) ?_
  first | (refine RS.q rfl (QO.add (by rfl) (by rfl) (by omega) (by omega)) ?_) | (refine RS.q rfl (QO.ibin (by rfl) (by rfl) trivial) ?_)
  refine RS.q rfl (QO.fieldAddr fo64_0 (by rfl)) ?_
  refine RS.q rfl (QO.fieldAddr fo23_2 (by rfl)) ?_
  first | (refine RS.q rfl (QO.load ty3 (by rfl) (by repeat (first | exact List.Mem.head _ | refine List.Mem.tail _ ?_)) (by rfl)) ?_) | (refine RS.q rfl (QO.loadO ty3 (by rfl) (by assumption)) ?_) | (refine RS.q rfl (QO.load ty3 (by rfl) (by repeat (first | exact List.Mem.head _ | refine List.Mem.tail _ ?_)) (by assumption)) ?_)
  refine RS.q rfl (QO.move) ?_
  first | (refine RS.q rfl (QO.mul (by rfl) (by rfl) (by omega) (by omega)) ?_) | (refine RS.q rfl (QO.ibin (by rfl) (by rfl) trivial) ?_)
  first | (refine RS.q rfl (QO.sub (by rfl) (by rfl) (by omega) (by omega)) ?_) | (refine RS.q rfl (QO.ibin (by rfl) (by rfl) trivial) ?_)
  refine RS.q rfl (QO.fieldAddr fo64_0 (by rfl)) ?_
  refine RS.q rfl (QO.fieldAddr fo23_3 (by rfl)) ?_
  first | (refine RS.q rfl (QO.load ty3 (by rfl) (by repeat (first | exact List.Mem.head _ | refine List.Mem.tail _ ?_)) (by rfl)) ?_) | (refine RS.q rfl (QO.loadO ty3 (by rfl) (by assumption)) ?_) | (refine RS.q rfl (QO.load ty3 (by rfl) (by repeat (first | exact List.Mem.head _ | refine List.Mem.tail _ ?_)) (by assumption)) ?_)
  refine RS.q rfl (QO.move) ?_
  first | (refine RS.q rfl (QO.mul (by rfl) (by rfl) (by omega) (by omega)) ?_) | (refine RS.q rfl (QO.ibin (by rfl) (by rfl) trivial) ?_)
  first | (refine RS.q rfl (QO.sub (by rfl) (by rfl) (by omega) (by omega)) ?_) | (refine RS.q rfl (QO.ibin (by rfl) (by rfl) trivial) ?_)
  refine RS.q rfl (QO.build ty23 pl23 (by rfl)) ?_
  refine RS.alloc rfl ty23 ?_
  intro g9
  first | refine RS.storeB ty23 (by rfl) (by rfl) (by rfl) (by rfl) (by rfl) (by repeat (first | exact Upd.head | apply Upd.tail)) (by rfl) ?_ | refine RS.storeP ty23 (by rfl) (by rfl) (by rfl) (by rfl) (by rfl) (by repeat (first | exact Upd.head | apply Upd.tail)) (by rfl) ?_
  refine RS.nil ?_
  refine thenC_n ?_
  refine CS.seq ?_
  refine CS.seq ?_
  refine CS.region ?_
  refine RS.q rfl (QO.fieldAddr fo23_2 (by rfl)) ?_
  first | (refine RS.q rfl (QO.load ty3 (by rfl) (by repeat (first | exact List.Mem.head _ | refine List.Mem.tail _ ?_)) (by rfl)) ?_) | (refine RS.q rfl (QO.loadO ty3 (by rfl) (by assumption)) ?_) | (refine RS.q rfl (QO.load ty3 (by rfl) (by repeat (first | exact List.Mem.head _ | refine List.Mem.tail _ ?_)) (by assumption)) ?_)
  refine RS.q rfl (QO.lss (by rfl) (by rfl)) ?_
  refine RS.q rfl (QO.move) ?_
  refine RS.on (dj := 55) rfl (congrArg Value.bool (decide_eq_false (by omega))) ?_
  refine RS.q rfl (QO.fieldAddr fo23_3 (by rfl)) ?_
  refine RS.on (dj := 55) rfl (congrArg Value.bool (decide_eq_false (by omega))) ?_
  first | (refine RS.q rfl (QO.load ty3 (by rfl) (by repeat (first | exact List.Mem.head _ | refine List.Mem.tail _ ?_)) (by rfl)) ?_) | (refine RS.q rfl (QO.loadO ty3 (by rfl) (by assumption)) ?_) | (refine RS.q rfl (QO.load ty3 (by rfl) (by repeat (first | exact List.Mem.head _ | refine List.Mem.tail _ ?_)) (by assumption)) ?_)
  refine RS.on (dj := 55) rfl (congrArg Value.bool (decide_eq_false (by omega))) ?_
  refine RS.q rfl (QO.lss (by rfl) (by rfl)) ?_
  refine RS.q rfl (QO.pickF (by rfl) (decide_eq_false (by omega)) (by rfl)) ?_
  refine RS.nil ?_
  refine thenC_n ?_
  refine CS.condT (by rfl) (decide_eq_true (by omega)) ?_
  refine CS.seq ?_
  refine CS.region ?_
  refine RS.q rfl (QO.build ty64 pl64 (by rfl)) ?_
  first | refine RS.storeB ty64 (by rfl) (by rfl) (by rfl) (by rfl) (by rfl) (by repeat (first | exact Upd.head | apply Upd.tail)) (by rfl) ?_ | refine RS.storeP ty64 (by rfl) (by rfl) (by rfl) (by rfl) (by rfl) (by repeat (first | exact Upd.head | apply Upd.tail)) (by rfl) ?_
  refine RS.q rfl (QO.assign) ?_
  refine RS.nil ?_
  refine thenC_n ?_
  refine CS.ret ?_
  refine thenC_r ?_
  refine retQ.mk (H' := []) (.inr rfl) (RVs.cellA ty64 (by rfl) (by repeat (first | exact List.Mem.head _ | refine List.Mem.tail _ ?_)) (by rfl) (RVs.tmp (by rfl) RVs.nil)) (List.nil_sublist _) ?_
  exact ⟨rfl, rfl⟩

theorem around_e (X Y : Int) (a b : Nat) (A : Option Addr) (n c : Nat) (xs : List Nat) (r : Nat) (fc : FuncId) (cap : Array Value) (W : World) (hn : xs.length = n) (hA : FS W A xs) (hN : n = a * b) (hc : n ≤ c) (hcm : c ≤ maxLen) (hre : mErr X Y a b n = 0) (hX : -1048576 ≤ X ∧ X ≤ 1048576) (hY : -1048576 ≤ Y ∧ Y ≤ 1048576) (ha : 1 ≤ a ∧ a ≤ 256) (hb : 1 ≤ b ∧ b ≤ 256) (hr : r ≤ 16) (he : a ≤ 2 * r ∨ b ≤ 2 * r) : Fn_ Try.prog 143 #[.agg #[iv X, iv Y, iv (a : Int), iv (b : Int), .slice A n c], iv (r : Int), .func (.func fc) #[] cap] W (fun v H => v = .tuple #[.agg #[iv 0, iv 0, iv 0, iv 0, .slice none 0 0], iv 10] ∧ H = []) := by
  by_cases h : a ≤ 2 * r
  · exact around_e1 X Y a b A n c xs r fc cap W hn hA hN hc hcm hre hX hY ha hb hr h
  · exact around_e2 X Y a b A n c xs r fc cap W hn hA hN hc hcm hre hX hY ha hb hr (by omega) (by omega)
/-- a matte of shares, made -/
def MatR (X Y : Int) (a b N : Nat) (f : Nat → Nat → Nat) (v : Value) (H : HL) : Prop := ∃ g, v = .tuple #[.agg #[iv X, iv Y, iv (a : Int), iv (b : Int), .slice (some ⟨g, 0, none⟩) N N], iv 0] ∧ H = [⟨g, 33, (matV f a N).map flt⟩]
theorem fo_turn {k : Nat} (h : k ≤ 1024) : fo .sub 1065353216 (qk k) = qk (1024 - k) := by
  unfold fo
  rw [qk_turn k (by omega)]
  exact qk_cl (by omega)
theorem inv_mat {f : Nat → Nat → Nat} {W N : Nat} (hf : ∀ x y, f x y ≤ 1024) : (List.range N).map (fun i => fo .sub 1065353216 ((matV f W N).getD i 0)) = matV (fun x y => 1024 - f x y) W N := by
  show _ = List.map _ _
  apply List.map_congr_left
  intro i hi
  rw [matV_at (List.mem_range.1 hi), fo_turn (hf _ _)]
theorem regErr_mid {X Y : Int} {a b : Nat} (ha : 1 ≤ a ∧ a ≤ 40) (hb : 1 ≤ b ∧ b ≤ 40) (hX : -2000 ≤ X ∧ X ≤ 2000) (hY : -2000 ≤ Y ∧ Y ≤ 2000) : regErr X Y a b = 0 := by
  have h1 := Nat.mul_le_mul ha.2 hb.2
  have h2 : ((a * b : Nat) : Int) = (a : Int) * (b : Int) := Int.natCast_mul ..
  unfold regErr
  rw [if_neg (by omega), if_neg (by omega), if_neg]
  rintro (h | h)
  all_goals
    unfold outR at h
    rw [Bool.or_eq_true, decide_eq_true_eq, decide_eq_true_eq] at h
    omega
theorem mErr_mid {X Y : Int} {a b N : Nat} (hN : N = a * b) (ha : 1 ≤ a ∧ a ≤ 40) (hb : 1 ≤ b ∧ b ≤ 40) (hX : -2000 ≤ X ∧ X ≤ 2000) (hY : -2000 ≤ Y ∧ Y ≤ 2000) : mErr X Y a b N = 0 := by
  rw [← mErr_ok (regErr_mid ha hb hX hY)]
  rw [hN]; exact Int.natCast_mul ..

set_option maxRecDepth 100000 in
theorem spread_ (X Y : Int) (a b : Nat) (A : Option Addr) (n c : Nat) (xs : List Nat) (r s S N2 a2 b2 : Nat) (W : World) (hn : xs.length = n) (hA : FS W A xs) (hN : n = a * b) (hc : n ≤ c) (hcm : c ≤ maxLen) (hre : mErr X Y a b n = 0) (hX : -1048576 ≤ X ∧ X ≤ 1048576) (hY : -1048576 ≤ Y ∧ Y ≤ 1048576) (ha : 1 ≤ a ∧ a ≤ 256) (hb : 1 ≤ b ∧ b ≤ 256) (hr : r ≤ 16) (hs : s = 2 * r + 1) (hS : S = s * s) (ha2 : a = a2 + 2 * r) (hb2 : b = b2 + 2 * r) (ha21 : 1 ≤ a2) (hb21 : 1 ≤ b2) (hN2 : N2 = a2 * b2) : Fn_ Try.prog 60 #[.agg #[iv X, iv Y, iv (a : Int), iv (b : Int), .slice A n c], iv (r : Int)] W (fun v H => ∃ g, v = .tuple #[.agg #[iv (X + (r : Int)), iv (Y + (r : Int)), iv (a2 : Int), iv (b2 : Int), .slice (some ⟨g, 0, none⟩) N2 N2], iv 0] ∧ H = [⟨g, 33, ((List.range N2).map (fun i => cl (bestG .gtr (sqL (fun k => xs.getD k 0) s a a2 i S)))).map flt⟩]) := by
  have hSb : S ≤ 1089 := by
    have h9 := Nat.mul_le_mul (show s ≤ 33 by omega) (show s ≤ 33 by omega)
    omega
  have hS1 : s ≤ S := by
    have h9 := Nat.mul_le_mul_right s (show 1 ≤ s by omega)
    omega
  refine Fn_.intro Try.func60 rfl rfl (by rfl) ?_
  refine CS.seq ?_
  refine CS.region ?_
  refine RS.box rfl (by rfl) (by rfl) ?_
  intro g2
  refine RS.alloc rfl ty64 ?_
  intro g4
  refine RS.q rfl (QO.assign) ?_
  refine RS.nil ?_
  refine thenC_n ?_
  refine CS.seq ?_
  refine CS.region ?_
  first | (refine RS.q rfl (QO.loadB ty64 (by rfl) (by repeat (first | exact List.Mem.head _ | refine List.Mem.tail _ ?_)) (by rfl)) ?_) | (refine RS.q rfl (QO.loadA ty64 (by rfl) (by repeat (first | exact List.Mem.head _ | refine List.Mem.tail _ ?_)) (by rfl) (by rfl)) ?_) | (refine RS.q rfl (QO.loadOA ty64 (by rfl) (by assumption) (by rfl)) ?_)
  refine RS.q rfl (QO.move) ?_
  refine RS.call rfl (by rfl) ok143 (by rfl) (fun w ho => around X Y a b A n c xs r s S N2 a2 b2 145 #[] (bestG .gtr) _ hn (hA.own ho) hN hc hcm hre hX hY ha hb hr hs hS ha2 hb2 ha21 hb21 hN2 (by kernel_rfl) (fun wd Hd hd g c l hl hf => spread1 g c l wd hf (by omega) (by unfold maxLen; omega))) ?_
  rintro _ _ ⟨gr, rfl, rfl⟩
  refine RS.q rfl (QO.extract (by rfl) (by rfl)) ?_
  refine RS.q rfl (QO.extract (by rfl) (by rfl)) ?_
  first | refine RS.storeB ty64 (by rfl) (by rfl) (by rfl) (by rfl) (by rfl) (by repeat (first | exact Upd.head | apply Upd.tail)) (by rfl) ?_ | refine RS.storeP ty64 (by rfl) (by rfl) (by rfl) (by rfl) (by rfl) (by repeat (first | exact Upd.head | apply Upd.tail)) (by rfl) ?_
  refine RS.q rfl (QO.assign) ?_
  refine RS.nil ?_
  refine thenC_n ?_
  refine CS.ret ?_
  refine retQ.mk (H' := [⟨gr, 33, ((List.range N2).map (fun i => cl (bestG .gtr (sqL (fun k => xs.getD k 0) s a a2 i S)))).map flt⟩]) (.inr rfl) (RVs.cellA ty64 (by rfl) (by repeat (first | exact List.Mem.head _ | refine List.Mem.tail _ ?_)) (by rfl) (RVs.tmp (by rfl) RVs.nil)) (by repeat (first | exact List.Sublist.refl _ | exact List.nil_sublist _ | refine List.Sublist.cons_cons _ ?_ | refine List.Sublist.cons _ ?_ | exact Sbp.refl | exact Sbp.nil | refine Sbp.cons (by repeat (first | exact Rem.head | apply Rem.tail)) ?_ | exact Sbp.app | refine Sbp.skip ?_)) ?_
  exact ⟨gr, rfl, rfl⟩

set_option maxRecDepth 100000 in
theorem spread_e (X Y : Int) (a b : Nat) (A : Option Addr) (n c : Nat) (xs : List Nat) (r : Nat) (W : World) (hn : xs.length = n) (hA : FS W A xs) (hN : n = a * b) (hc : n ≤ c) (hcm : c ≤ maxLen) (hre : mErr X Y a b n = 0) (hX : -1048576 ≤ X ∧ X ≤ 1048576) (hY : -1048576 ≤ Y ∧ Y ≤ 1048576) (ha : 1 ≤ a ∧ a ≤ 256) (hb : 1 ≤ b ∧ b ≤ 256) (hr : r ≤ 16) (he : a ≤ 2 * r ∨ b ≤ 2 * r) : Fn_ Try.prog 60 #[.agg #[iv X, iv Y, iv (a : Int), iv (b : Int), .slice A n c], iv (r : Int)] W (fun v H => v = .tuple #[.agg #[iv 0, iv 0, iv 0, iv 0, .slice none 0 0], iv 10] ∧ H = []) := by
  refine Fn_.intro Try.func60 rfl rfl (by rfl) ?_
  refine CS.seq ?_
  refine CS.region ?_
  refine RS.box rfl (by rfl) (by rfl) ?_
  intro g2
  refine RS.alloc rfl ty64 ?_
  intro g4
  refine RS.q rfl (QO.assign) ?_
  refine RS.nil ?_
  refine thenC_n ?_
  refine CS.seq ?_
  refine CS.region ?_
  first | (refine RS.q rfl (QO.loadB ty64 (by rfl) (by repeat (first | exact List.Mem.head _ | refine List.Mem.tail _ ?_)) (by rfl)) ?_) | (refine RS.q rfl (QO.loadA ty64 (by rfl) (by repeat (first | exact List.Mem.head _ | refine List.Mem.tail _ ?_)) (by rfl) (by rfl)) ?_) | (refine RS.q rfl (QO.loadOA ty64 (by rfl) (by assumption) (by rfl)) ?_)
  refine RS.q rfl (QO.move) ?_
  refine RS.call rfl (by rfl) ok143 (by rfl) (fun w ho => around_e X Y a b A n c xs r 145 #[] _ hn (hA.own ho) hN hc hcm hre hX hY ha hb hr he) ?_
  rintro _ _ ⟨rfl, rfl⟩
  refine RS.q rfl (QO.extract (by rfl) (by rfl)) ?_
  refine RS.q rfl (QO.extract (by rfl) (by rfl)) ?_
  first | refine RS.storeB ty64 (by rfl) (by rfl) (by rfl) (by rfl) (by rfl) (by repeat (first | exact Upd.head | apply Upd.tail)) (by rfl) ?_ | refine RS.storeP ty64 (by rfl) (by rfl) (by rfl) (by rfl) (by rfl) (by repeat (first | exact Upd.head | apply Upd.tail)) (by rfl) ?_
  refine RS.q rfl (QO.assign) ?_
  refine RS.nil ?_
  refine thenC_n ?_
  refine CS.ret ?_
  refine retQ.mk (H' := []) (.inr rfl) (RVs.cellA ty64 (by rfl) (by repeat (first | exact List.Mem.head _ | refine List.Mem.tail _ ?_)) (by rfl) (RVs.tmp (by rfl) RVs.nil)) (List.nil_sublist _) ?_
  exact ⟨rfl, rfl⟩

theorem spreadM (X Y : Int) (a b a2 b2 g N N2 : Nat) (f : Nat → Nat → Nat) (r : Nat) (W : World) (hf : ∀ x y, f x y ≤ 1024) (hA : FS W (some ⟨g, 0, none⟩) (matV f a N)) (hN : N = a * b) (hr : r ≤ 2) (ha2 : a = a2 + 2 * r) (hb2 : b = b2 + 2 * r) (ha21 : 1 ≤ a2) (hb21 : 1 ≤ b2) (ha : a ≤ 40) (hb : b ≤ 40) (hN2 : N2 = a2 * b2) (hX : -2000 ≤ X ∧ X ≤ 2000) (hY : -2000 ≤ Y ∧ Y ≤ 2000) :
    Fn_ Try.prog 60 #[.agg #[iv X, iv Y, iv (a : Int), iv (b : Int), .slice (some ⟨g, 0, none⟩) N N], iv (r : Int)] W (MatR (X + (r : Int)) (Y + (r : Int)) a2 b2 N2 (mxS (2 * r + 1) f)) := by
  have h9 := Nat.mul_le_mul ha hb
  refine (spread_ X Y a b _ N N (matV f a N) r (2 * r + 1) ((2 * r + 1) * (2 * r + 1)) N2 a2 b2 W (matV_len ..) hA hN (Nat.le_refl _) (by unfold maxLen; omega) (mErr_mid hN (by omega) (by omega) hX hY) (by omega) (by omega) (by omega) (by omega) (by omega) rfl rfl ha2 hb2 ha21 hb21 hN2).mono fun v H hv => ?_
  obtain ⟨g, rfl, rfl⟩ := hv
  refine ⟨g, rfl, ?_⟩
  have := aroV_max (f := f) (r := r) hf ha2 hb2
  rw [← hN, ← hN2] at this
  rw [← this]
  rfl
theorem spreadE (X Y : Int) (a b g N : Nat) (f : Nat → Nat → Nat) (r : Nat) (W : World) (hA : FS W (some ⟨g, 0, none⟩) (matV f a N)) (hN : N = a * b) (hr : r ≤ 2) (he : a ≤ 2 * r ∨ b ≤ 2 * r) (ha : 1 ≤ a ∧ a ≤ 40) (hb : 1 ≤ b ∧ b ≤ 40) (hX : -2000 ≤ X ∧ X ≤ 2000) (hY : -2000 ≤ Y ∧ Y ≤ 2000) :
    Fn_ Try.prog 60 #[.agg #[iv X, iv Y, iv (a : Int), iv (b : Int), .slice (some ⟨g, 0, none⟩) N N], iv (r : Int)] W (fun v H => v = .tuple #[.agg #[iv 0, iv 0, iv 0, iv 0, .slice none 0 0], iv 10] ∧ H = []) := by
  have h9 := Nat.mul_le_mul ha.2 hb.2
  exact spread_e X Y a b _ N N (matV f a N) r W (matV_len ..) hA hN (Nat.le_refl _) (by unfold maxLen; omega) (mErr_mid hN (by omega) (by omega) hX hY) (by omega) (by omega) (by omega) (by omega) (by omega) he

set_option maxRecDepth 100000 in
theorem shrink_ (X Y : Int) (a b : Nat) (A : Option Addr) (n c : Nat) (xs : List Nat) (r s S N2 a2 b2 : Nat) (W : World) (hn : xs.length = n) (hA : FS W A xs) (hN : n = a * b) (hc : n ≤ c) (hcm : c ≤ maxLen) (hre : mErr X Y a b n = 0) (hX : -1048576 ≤ X ∧ X ≤ 1048576) (hY : -1048576 ≤ Y ∧ Y ≤ 1048576) (ha : 1 ≤ a ∧ a ≤ 256) (hb : 1 ≤ b ∧ b ≤ 256) (hr : r ≤ 16) (hs : s = 2 * r + 1) (hS : S = s * s) (ha2 : a = a2 + 2 * r) (hb2 : b = b2 + 2 * r) (ha21 : 1 ≤ a2) (hb21 : 1 ≤ b2) (hN2 : N2 = a2 * b2) : Fn_ Try.prog 59 #[.agg #[iv X, iv Y, iv (a : Int), iv (b : Int), .slice A n c], iv (r : Int)] W (fun v H => ∃ g, v = .tuple #[.agg #[iv (X + (r : Int)), iv (Y + (r : Int)), iv (a2 : Int), iv (b2 : Int), .slice (some ⟨g, 0, none⟩) N2 N2], iv 0] ∧ H = [⟨g, 33, ((List.range N2).map (fun i => cl (bestG .lss (sqL (fun k => xs.getD k 0) s a a2 i S)))).map flt⟩]) := by
  have hSb : S ≤ 1089 := by
    have h9 := Nat.mul_le_mul (show s ≤ 33 by omega) (show s ≤ 33 by omega)
    omega
  have hS1 : s ≤ S := by
    have h9 := Nat.mul_le_mul_right s (show 1 ≤ s by omega)
    omega
  refine Fn_.intro Try.func59 rfl rfl (by rfl) ?_
  refine CS.seq ?_
  refine CS.region ?_
  refine RS.box rfl (by rfl) (by rfl) ?_
  intro g2
  refine RS.alloc rfl ty64 ?_
  intro g4
  refine RS.q rfl (QO.assign) ?_
  refine RS.nil ?_
  refine thenC_n ?_
  refine CS.seq ?_
  refine CS.region ?_
  first | (refine RS.q rfl (QO.loadB ty64 (by rfl) (by repeat (first | exact List.Mem.head _ | refine List.Mem.tail _ ?_)) (by rfl)) ?_) | (refine RS.q rfl (QO.loadA ty64 (by rfl) (by repeat (first | exact List.Mem.head _ | refine List.Mem.tail _ ?_)) (by rfl) (by rfl)) ?_) | (refine RS.q rfl (QO.loadOA ty64 (by rfl) (by assumption) (by rfl)) ?_)
  refine RS.q rfl (QO.move) ?_
  refine RS.call rfl (by rfl) ok143 (by rfl) (fun w ho => around X Y a b A n c xs r s S N2 a2 b2 144 #[] (bestG .lss) _ hn (hA.own ho) hN hc hcm hre hX hY ha hb hr hs hS ha2 hb2 ha21 hb21 hN2 (by kernel_rfl) (fun wd Hd hd g c l hl hf => shrink1 g c l wd hf (by omega) (by unfold maxLen; omega))) ?_
  rintro _ _ ⟨gr, rfl, rfl⟩
  refine RS.q rfl (QO.extract (by rfl) (by rfl)) ?_
  refine RS.q rfl (QO.extract (by rfl) (by rfl)) ?_
  first | refine RS.storeB ty64 (by rfl) (by rfl) (by rfl) (by rfl) (by rfl) (by repeat (first | exact Upd.head | apply Upd.tail)) (by rfl) ?_ | refine RS.storeP ty64 (by rfl) (by rfl) (by rfl) (by rfl) (by rfl) (by repeat (first | exact Upd.head | apply Upd.tail)) (by rfl) ?_
  refine RS.q rfl (QO.assign) ?_
  refine RS.nil ?_
  refine thenC_n ?_
  refine CS.ret ?_
  refine retQ.mk (H' := [⟨gr, 33, ((List.range N2).map (fun i => cl (bestG .lss (sqL (fun k => xs.getD k 0) s a a2 i S)))).map flt⟩]) (.inr rfl) (RVs.cellA ty64 (by rfl) (by repeat (first | exact List.Mem.head _ | refine List.Mem.tail _ ?_)) (by rfl) (RVs.tmp (by rfl) RVs.nil)) (by repeat (first | exact List.Sublist.refl _ | exact List.nil_sublist _ | refine List.Sublist.cons_cons _ ?_ | refine List.Sublist.cons _ ?_ | exact Sbp.refl | exact Sbp.nil | refine Sbp.cons (by repeat (first | exact Rem.head | apply Rem.tail)) ?_ | exact Sbp.app | refine Sbp.skip ?_)) ?_
  exact ⟨gr, rfl, rfl⟩

set_option maxRecDepth 100000 in
theorem shrink_e (X Y : Int) (a b : Nat) (A : Option Addr) (n c : Nat) (xs : List Nat) (r : Nat) (W : World) (hn : xs.length = n) (hA : FS W A xs) (hN : n = a * b) (hc : n ≤ c) (hcm : c ≤ maxLen) (hre : mErr X Y a b n = 0) (hX : -1048576 ≤ X ∧ X ≤ 1048576) (hY : -1048576 ≤ Y ∧ Y ≤ 1048576) (ha : 1 ≤ a ∧ a ≤ 256) (hb : 1 ≤ b ∧ b ≤ 256) (hr : r ≤ 16) (he : a ≤ 2 * r ∨ b ≤ 2 * r) : Fn_ Try.prog 59 #[.agg #[iv X, iv Y, iv (a : Int), iv (b : Int), .slice A n c], iv (r : Int)] W (fun v H => v = .tuple #[.agg #[iv 0, iv 0, iv 0, iv 0, .slice none 0 0], iv 10] ∧ H = []) := by
  refine Fn_.intro Try.func59 rfl rfl (by rfl) ?_
  refine CS.seq ?_
  refine CS.region ?_
  refine RS.box rfl (by rfl) (by rfl) ?_
  intro g2
  refine RS.alloc rfl ty64 ?_
  intro g4
  refine RS.q rfl (QO.assign) ?_
  refine RS.nil ?_
  refine thenC_n ?_
  refine CS.seq ?_
  refine CS.region ?_
  first | (refine RS.q rfl (QO.loadB ty64 (by rfl) (by repeat (first | exact List.Mem.head _ | refine List.Mem.tail _ ?_)) (by rfl)) ?_) | (refine RS.q rfl (QO.loadA ty64 (by rfl) (by repeat (first | exact List.Mem.head _ | refine List.Mem.tail _ ?_)) (by rfl) (by rfl)) ?_) | (refine RS.q rfl (QO.loadOA ty64 (by rfl) (by assumption) (by rfl)) ?_)
  refine RS.q rfl (QO.move) ?_
  refine RS.call rfl (by rfl) ok143 (by rfl) (fun w ho => around_e X Y a b A n c xs r 144 #[] _ hn (hA.own ho) hN hc hcm hre hX hY ha hb hr he) ?_
  rintro _ _ ⟨rfl, rfl⟩
  refine RS.q rfl (QO.extract (by rfl) (by rfl)) ?_
  refine RS.q rfl (QO.extract (by rfl) (by rfl)) ?_
  first | refine RS.storeB ty64 (by rfl) (by rfl) (by rfl) (by rfl) (by rfl) (by repeat (first | exact Upd.head | apply Upd.tail)) (by rfl) ?_ | refine RS.storeP ty64 (by rfl) (by rfl) (by rfl) (by rfl) (by rfl) (by repeat (first | exact Upd.head | apply Upd.tail)) (by rfl) ?_
  refine RS.q rfl (QO.assign) ?_
  refine RS.nil ?_
  refine thenC_n ?_
  refine CS.ret ?_
  refine retQ.mk (H' := []) (.inr rfl) (RVs.cellA ty64 (by rfl) (by repeat (first | exact List.Mem.head _ | refine List.Mem.tail _ ?_)) (by rfl) (RVs.tmp (by rfl) RVs.nil)) (List.nil_sublist _) ?_
  exact ⟨rfl, rfl⟩

theorem shrinkM (X Y : Int) (a b a2 b2 g N N2 : Nat) (f : Nat → Nat → Nat) (r : Nat) (W : World) (hf : ∀ x y, f x y ≤ 1024) (hA : FS W (some ⟨g, 0, none⟩) (matV f a N)) (hN : N = a * b) (hr : r ≤ 2) (ha2 : a = a2 + 2 * r) (hb2 : b = b2 + 2 * r) (ha21 : 1 ≤ a2) (hb21 : 1 ≤ b2) (ha : a ≤ 40) (hb : b ≤ 40) (hN2 : N2 = a2 * b2) (hX : -2000 ≤ X ∧ X ≤ 2000) (hY : -2000 ≤ Y ∧ Y ≤ 2000) :
    Fn_ Try.prog 59 #[.agg #[iv X, iv Y, iv (a : Int), iv (b : Int), .slice (some ⟨g, 0, none⟩) N N], iv (r : Int)] W (MatR (X + (r : Int)) (Y + (r : Int)) a2 b2 N2 (mnS (2 * r + 1) f)) := by
  have h9 := Nat.mul_le_mul ha hb
  refine (shrink_ X Y a b _ N N (matV f a N) r (2 * r + 1) ((2 * r + 1) * (2 * r + 1)) N2 a2 b2 W (matV_len ..) hA hN (Nat.le_refl _) (by unfold maxLen; omega) (mErr_mid hN (by omega) (by omega) hX hY) (by omega) (by omega) (by omega) (by omega) (by omega) rfl rfl ha2 hb2 ha21 hb21 hN2).mono fun v H hv => ?_
  obtain ⟨g, rfl, rfl⟩ := hv
  refine ⟨g, rfl, ?_⟩
  have := aroV_min (f := f) (r := r) hf ha2 hb2
  rw [← hN, ← hN2] at this
  rw [← this]
  rfl
theorem shrinkE (X Y : Int) (a b g N : Nat) (f : Nat → Nat → Nat) (r : Nat) (W : World) (hA : FS W (some ⟨g, 0, none⟩) (matV f a N)) (hN : N = a * b) (hr : r ≤ 2) (he : a ≤ 2 * r ∨ b ≤ 2 * r) (ha : 1 ≤ a ∧ a ≤ 40) (hb : 1 ≤ b ∧ b ≤ 40) (hX : -2000 ≤ X ∧ X ≤ 2000) (hY : -2000 ≤ Y ∧ Y ≤ 2000) :
    Fn_ Try.prog 59 #[.agg #[iv X, iv Y, iv (a : Int), iv (b : Int), .slice (some ⟨g, 0, none⟩) N N], iv (r : Int)] W (fun v H => v = .tuple #[.agg #[iv 0, iv 0, iv 0, iv 0, .slice none 0 0], iv 10] ∧ H = []) := by
  have h9 := Nat.mul_le_mul ha.2 hb.2
  exact shrink_e X Y a b _ N N (matV f a N) r W (matV_len ..) hA hN (Nat.le_refl _) (by unfold maxLen; omega) (mErr_mid hN (by omega) (by omega) hX hY) (by omega) (by omega) (by omega) (by omega) (by omega) he

theorem invertM (X Y : Int) (a b g N : Nat) (f : Nat → Nat → Nat) (W : World) (hf : ∀ x y, f x y ≤ 1024) (hA : FS W (some ⟨g, 0, none⟩) (matV f a N)) (hN : N = a * b) (ha : 1 ≤ a ∧ a ≤ 40) (hb : 1 ≤ b ∧ b ≤ 40) (hX : -2000 ≤ X ∧ X ≤ 2000) (hY : -2000 ≤ Y ∧ Y ≤ 2000) :
    Fn_ Try.prog 58 #[.agg #[iv X, iv Y, iv (a : Int), iv (b : Int), .slice (some ⟨g, 0, none⟩) N N]] W (MatR X Y a b N (fun x y => 1024 - f x y)) := by
  have h9 := Nat.mul_le_mul ha.2 hb.2
  refine (invert X Y a b _ N N (matV f a N) W (matV_len ..) hA hN (Nat.le_refl _) (by unfold maxLen; omega) (mErr_mid hN ha hb hX hY) (by omega) (by omega) (by omega) (by omega)).mono fun v H hv => ?_
  obtain ⟨g, rfl, rfl⟩ := hv
  exact ⟨g, rfl, by rw [inv_mat hf]⟩
theorem matV_cell {f : Nat → Nat → Nat} {W N i : Nat} (h : i < N) : ((matV f W N).map flt)[i]? = some (flt (qk (f (i % W) (i / W)))) := by
  rw [List.getElem?_map, List.getElem?_eq_getElem (by rw [matV_len]; exact h), getD_at, matV_at h]; rfl
theorem matV_cell2 {f : Nat → Nat → Nat} {W N H i j p : Nat} (hN : N = W * H) (hp : j * W = p) (hi : i < W) (hj : j < H) : ((matV f W N).map flt)[p + i]? = some (flt (qk (f i j))) := by
  have h1 := Nat.mul_le_mul_right W (show j + 1 ≤ H from hj)
  rw [Nat.add_mul, Nat.one_mul, hp, Nat.mul_comm H W] at h1
  rw [matV_cell (by omega)]
  have e1 : (p + i) % W = i := by rw [← hp, Nat.mul_comm, Nat.mul_add_mod, Nat.mod_eq_of_lt hi]
  have e2 : (p + i) / W = j := by rw [← hp, Nat.mul_comm, Nat.mul_add_div (by omega), Nat.div_eq_of_lt hi, Nat.add_zero]
  rw [e1, e2]

theorem and15 (w : Int) : ∃ a : Nat, 1 + and64 w 15 = (a : Int) ∧ 1 ≤ a ∧ a ≤ 16 := by
  have h := and64_bd (i := w) (j := 15) (by decide) (by decide)
  exact ⟨(1 + and64 w 15).toNat, by omega, by omega, by omega⟩
theorem and1 (w : Int) : ∃ a : Nat, 1 + and64 w 1 = (a : Int) ∧ 1 ≤ a ∧ a ≤ 2 := by
  have h := and64_bd (i := w) (j := 1) (by decide) (by decide)
  exact ⟨(1 + and64 w 1).toNat, by omega, by omega, by omega⟩
theorem clampN (x : Int) : ∃ X : Int, min (max x (-1000)) 1000 = X ∧ -1000 ≤ X ∧ X ≤ 1000 := ⟨_, rfl, by omega, by omega⟩

set_option maxRecDepth 100000 in
theorem fitMatte (x3 y3 w3 h3 : Int) (C : Option Addr) (n3 c3 : Nat) (ms : List Nat) (W : World) (hn3 : ms.length = n3) (hC : FS W C ms) (hlx : n3 ≤ maxLen) : Fn_ Try.prog 57 #[.agg #[iv x3, iv y3, iv w3, iv h3, .slice C n3 c3]] W (fun v H => ∃ (g : Nat) (X Y : Int) (a b : Nat) (ys : List Nat), v = .agg #[iv X, iv Y, iv (a : Int), iv (b : Int), .slice (some ⟨g, 0, none⟩) (a * b) (a * b)] ∧ H = [⟨g, 33, ys.map flt⟩] ∧ (1 ≤ a ∧ a ≤ 16) ∧ (1 ≤ b ∧ b ≤ 16) ∧ (-1000 ≤ X ∧ X ≤ 1000) ∧ (-1000 ≤ Y ∧ Y ≤ 1000)) := by
  obtain ⟨a, ha, ha1, ha2⟩ := and15 w3
  obtain ⟨b, hb, hb1, hb2⟩ := and15 h3
  obtain ⟨X, hX, hX1, hX2⟩ := clampN x3
  obtain ⟨Y, hY, hY1, hY2⟩ := clampN y3
  have hab := Nat.mul_le_mul ha2 hb2
  have hcast : ((a * b : Nat) : Int) = (a : Int) * (b : Int) := Int.natCast_mul ..
  have hw15 := and64_bd (i := w3) (j := 15) (by decide) (by decide)
  have hh15 := and64_bd (i := h3) (j := 15) (by decide) (by decide)
  refine Fn_.intro Try.func57 rfl rfl (by rfl) ?_
  refine CS.seq ?_
  refine CS.region ?_
  refine RS.box rfl (by rfl) (by rfl) ?_
  intro g1
  refine RS.alloc rfl ty64 ?_
  intro g2
  refine RS.nil ?_
  refine thenC_n ?_
  refine CS.seq ?_
  refine CS.region ?_
  refine RS.q rfl (QO.fieldAddr fo64_0 (by rfl)) ?_
  refine RS.q rfl (QO.fieldAddr fo23_2 (by rfl)) ?_
  first | (refine RS.q rfl (QO.load ty3 (by rfl) (by repeat (first | exact List.Mem.head _ | refine List.Mem.tail _ ?_)) (by rfl)) ?_) | (refine RS.q rfl (QO.loadO ty3 (by rfl) (by assumption)) ?_) | (refine RS.q rfl (QO.load ty3 (by rfl) (by repeat (first | exact List.Mem.head _ | refine List.Mem.tail _ ?_)) (by assumption)) ?_)
  refine RS.q rfl (QO.and64 (by rfl) (by rfl)) ?_
  refine RS.qv rfl (QO.add (by rfl) (by rfl) (by omega) (by omega)) (congrArg iv ha) ?_
  refine RS.q rfl (QO.fieldAddr fo64_0 (by rfl)) ?_
  refine RS.q rfl (QO.fieldAddr fo23_3 (by rfl)) ?_
  first | (refine RS.q rfl (QO.load ty3 (by rfl) (by repeat (first | exact List.Mem.head _ | refine List.Mem.tail _ ?_)) (by rfl)) ?_) | (refine RS.q rfl (QO.loadO ty3 (by rfl) (by assumption)) ?_) | (refine RS.q rfl (QO.load ty3 (by rfl) (by repeat (first | exact List.Mem.head _ | refine List.Mem.tail _ ?_)) (by assumption)) ?_)
  refine RS.q rfl (QO.and64 (by rfl) (by rfl)) ?_
  refine RS.qv rfl (QO.add (by rfl) (by rfl) (by omega) (by omega)) (congrArg iv hb) ?_
  refine RS.q rfl (QO.fieldAddr fo64_0 (by rfl)) ?_
  refine RS.q rfl (QO.fieldAddr fo23_2 (by rfl)) ?_
  refine RS.store1 ty3 rfl (by rfl) (by rfl) (by rfl) (by repeat (first | exact Upd.head | apply Upd.tail)) (by first | (simp; done) | (simp; omega) | omega) ?_
  refine RS.q rfl (QO.fieldAddr fo64_0 (by rfl)) ?_
  refine RS.q rfl (QO.fieldAddr fo23_3 (by rfl)) ?_
  refine RS.store1 ty3 rfl (by rfl) (by rfl) (by rfl) (by repeat (first | exact Upd.head | apply Upd.tail)) (by first | (simp; done) | (simp; omega) | omega) ?_
  refine RS.nil ?_
  refine thenC_n ?_
  refine CS.seq ?_
  refine CS.region ?_
  refine RS.q rfl (QO.fieldAddr fo64_0 (by rfl)) ?_
  refine RS.q rfl (QO.fieldAddr fo23_0 (by rfl)) ?_
  first | (refine RS.q rfl (QO.load ty3 (by rfl) (by repeat (first | exact List.Mem.head _ | refine List.Mem.tail _ ?_)) (by rfl)) ?_) | (refine RS.q rfl (QO.loadO ty3 (by rfl) (by assumption)) ?_) | (refine RS.q rfl (QO.load ty3 (by rfl) (by repeat (first | exact List.Mem.head _ | refine List.Mem.tail _ ?_)) (by assumption)) ?_)
  refine RS.q rfl (QO.max2 (by rfl) (by rfl)) ?_
  refine RS.qv rfl (QO.min2 (by rfl) (by rfl)) (congrArg iv hX) ?_
  refine RS.q rfl (QO.fieldAddr fo64_0 (by rfl)) ?_
  refine RS.q rfl (QO.fieldAddr fo23_1 (by rfl)) ?_
  first | (refine RS.q rfl (QO.load ty3 (by rfl) (by repeat (first | exact List.Mem.head _ | refine List.Mem.tail _ ?_)) (by rfl)) ?_) | (refine RS.q rfl (QO.loadO ty3 (by rfl) (by assumption)) ?_) | (refine RS.q rfl (QO.load ty3 (by rfl) (by repeat (first | exact List.Mem.head _ | refine List.Mem.tail _ ?_)) (by assumption)) ?_)
  refine RS.q rfl (QO.max2 (by rfl) (by rfl)) ?_
  refine RS.qv rfl (QO.min2 (by rfl) (by rfl)) (congrArg iv hY) ?_
  refine RS.q rfl (QO.fieldAddr fo64_0 (by rfl)) ?_
  refine RS.q rfl (QO.fieldAddr fo23_0 (by rfl)) ?_
  refine RS.store1 ty3 rfl (by rfl) (by rfl) (by rfl) (by repeat (first | exact Upd.head | apply Upd.tail)) (by first | (simp; done) | (simp; omega) | omega) ?_
  refine RS.q rfl (QO.fieldAddr fo64_0 (by rfl)) ?_
  refine RS.q rfl (QO.fieldAddr fo23_1 (by rfl)) ?_
  refine RS.store1 ty3 rfl (by rfl) (by rfl) (by rfl) (by repeat (first | exact Upd.head | apply Upd.tail)) (by first | (simp; done) | (simp; omega) | omega) ?_
  refine RS.nil ?_
  refine thenC_n ?_
  refine CS.seq ?_
  refine CS.region ?_
  first | (refine RS.q rfl (QO.loadB ty64 (by rfl) (by repeat (first | exact List.Mem.head _ | refine List.Mem.tail _ ?_)) (by rfl)) ?_) | (refine RS.q rfl (QO.loadA ty64 (by rfl) (by repeat (first | exact List.Mem.head _ | refine List.Mem.tail _ ?_)) (by rfl) (by rfl)) ?_) | (refine RS.q rfl (QO.loadOA ty64 (by rfl) (by assumption) (by rfl)) ?_)
  refine RS.q rfl (QO.fieldAddr fo64_0 (by rfl)) ?_
  first | (refine RS.q rfl (QO.loadB ty23 (by rfl) (by repeat (first | exact List.Mem.head _ | refine List.Mem.tail _ ?_)) (by rfl)) ?_) | (refine RS.q rfl (QO.loadA ty23 (by rfl) (by repeat (first | exact List.Mem.head _ | refine List.Mem.tail _ ?_)) (by rfl) (by rfl)) ?_) | (refine RS.q rfl (QO.loadOA ty23 (by rfl) (by assumption) (by rfl)) ?_)
  refine RS.call rfl (by rfl) ok56 (by rfl) (fun w ho => matteOf X Y a b C n3 c3 ms X Y a b (a * b) _ hn3 (hC.own ho) hlx hcast (by omega)) ?_
  rintro _ _ ⟨gk, rfl, rfl⟩
  first | refine RS.storeB ty64 (by rfl) (by rfl) (by rfl) (by rfl) (by rfl) (by repeat (first | exact Upd.head | apply Upd.tail)) (by rfl) ?_ | refine RS.storeP ty64 (by rfl) (by rfl) (by rfl) (by rfl) (by rfl) (by repeat (first | exact Upd.head | apply Upd.tail)) (by rfl) ?_
  refine RS.nil ?_
  refine thenC_n ?_
  refine CS.ret ?_
  refine retQ.mk (H' := [⟨gk, 33, ((List.range (a * b)).map (mofF ms)).map flt⟩]) (.inr rfl) (RVs.cellA ty64 (by rfl) (by repeat (first | exact List.Mem.head _ | refine List.Mem.tail _ ?_)) (by rfl) RVs.nil) (by repeat (first | exact List.Sublist.refl _ | exact List.nil_sublist _ | refine List.Sublist.cons_cons _ ?_ | refine List.Sublist.cons _ ?_ | exact Sbp.refl | exact Sbp.nil | refine Sbp.cons (by repeat (first | exact Rem.head | apply Rem.tail)) ?_ | exact Sbp.app | refine Sbp.skip ?_)) ?_
  exact ⟨gk, X, Y, a, b, _, rfl, rfl, ⟨ha1, ha2⟩, ⟨hb1, hb2⟩, ⟨hX1, hX2⟩, hY1, hY2⟩

end Go.Proofs.Ytplfeaikjgfhcaa
