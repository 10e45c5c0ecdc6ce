/-
  Contracts: a pattern sought. Conditions: as each theorem says.
-/
import Derived.Test.YtplfeaikjgfhcaaC10
import Derived.Test.YtplfeaikjgfhcaaC2
import Derived.Test.YtplfeaikjgfhcaaTrk
namespace Go.Proofs.Ytplfeaikjgfhcaa
open Go Go.Proofs Go.RowKit

theorem ok218 : callOK Try.prog 218 = true := by kernel_rfl
theorem ok226 : callOK Try.prog 226 = true := by kernel_rfl

theorem ext229 (n : Nat) (w : World) : (callFunc 229 [Value.float .f64 n].toArray).run Try.prog w = .ok (.value (.int .u64 n)) w := by kernel_rfl
theorem ext219 (n : Int) (w : World) : (callFunc 219 [Value.int .u64 n].toArray).run Try.prog w = .ok (.value (.float .f64 n.toNat)) w := by kernel_rfl

set_option maxRecDepth 100000 in
theorem mabs (d : Nat) (W : World) : Fn_ Try.prog 226 #[.float .f64 d] W (fun v H => v = .float .f64 (absN d) ∧ H = []) := by
  refine Fn_.intro Try.func226 rfl rfl (by rfl) ?_
  refine CS.seq ?_
  refine CS.region ?_
  refine RS.q rfl (QO.assign) ?_
  refine RS.nil ?_
  refine thenC_n ?_
  refine CS.seq ?_
  refine CS.region ?_
  refine RS.q rfl (QO.move) ?_
  refine RS.q rfl (QO.ext (by rfl) (ext229 _)) ?_
  refine RS.q rfl (QO.ibin (by rfl) (by rfl) trivial) ?_
  refine RS.q rfl (QO.ext (by rfl) (ext219 _)) ?_
  refine RS.q rfl (QO.assign) ?_
  refine RS.nil ?_
  refine thenC_n ?_
  refine CS.ret ?_
  refine retQ.mk (H' := []) (.inr rfl) (RVs.tmp (by rfl) RVs.nil) (List.nil_sublist _) ?_
  exact ⟨rfl, rfl⟩

set_option maxRecDepth 100000 in
theorem abs_ (u s : Nat) (W : World) (h : absF u = some s) : Fn_ Try.prog 218 #[flt u] W (fun v H => v = flt (cl s) ∧ H = []) := by
  obtain ⟨d, hd1, hd2⟩ := absF_some h
  refine Fn_.intro Try.func218 rfl rfl (by rfl) ?_
  refine CS.seq ?_
  refine CS.region ?_
  refine RS.q rfl (QO.assign) ?_
  refine RS.nil ?_
  refine thenC_n ?_
  refine CS.seq ?_
  refine CS.region ?_
  refine RS.q rfl (QO.move) ?_
  refine RS.q rfl (QO.conv_ff (by rfl) Try.underlying169 (by rfl) hd1) ?_
  refine RS.call rfl (by rfl) ok226 (by rfl) (fun w ho => mabs d _) ?_
  rintro _ _ ⟨rfl, rfl⟩
  refine RS.q rfl (QO.conv_ff (by rfl) Try.underlying33 (by rfl) hd2) ?_
  refine RS.call rfl (by rfl) ok117 (by rfl) (fun w ho => clean _ _) ?_
  rintro _ _ ⟨rfl, rfl⟩
  refine RS.q rfl (QO.assign) ?_
  refine RS.nil ?_
  refine thenC_n ?_
  refine CS.ret ?_
  refine retQ.mk (H' := []) (.inr rfl) (RVs.tmp (by rfl) RVs.nil) (List.nil_sublist _) ?_
  exact ⟨rfl, rfl⟩

theorem row_slice {el n : Nat} {v : Value} {xs : List Value} {H : HL} (hrow : Row el 1 v n xs H) (h0 : 0 < n) : ∃ g cap cs, v = .slice (some ⟨g, 0, none⟩) n cap ∧ H = [⟨g, el, xs ++ cs⟩] ∧ n ≤ cap ∧ cap ≤ maxLen := by
  obtain ⟨gl, cp, jk, rfl, rfl, hcp, hcpx, _⟩ := hrow.some h0
  exact ⟨gl, cp, jk, rfl, rfl, hcp, hcpx⟩
structure SSt where
  g : Nat
  cap : Nat
  cs : List Value

set_option maxHeartbeats 4000000 in
set_option maxRecDepth 100000 in
theorem compared (X Y X2 Y2 ex ez : Int) (p q : Nat) (A : Option Addr) (n c : Nat) (xs : List Nat) (W : World) (hn : xs.length = n) (hA : FS W A xs) (hN : n = 324) (hxs : ∀ i, i < 324 → xs[i]? = some (pat i)) (hc : n ≤ c) (hcm : c ≤ maxLen) (hp : p < 5) (hq : q < 5) (hx : X + 3 - ex - X2 = 1 + (p : Int)) (hy : Y + 3 - ez - Y2 = 1 + (q : Int)) (hX : -2000 ≤ X ∧ X ≤ 2000) (hY : -2000 ≤ Y ∧ Y ≤ 2000) (hX2 : -2000 ≤ X2 ∧ X2 ≤ 2000) (hY2 : -2000 ≤ Y2 ∧ Y2 ≤ 2000) (hex : -2000 ≤ ex ∧ ex ≤ 2000) (hez : -2000 ≤ ez ∧ ez ≤ 2000) : Fn_ Try.prog 179 #[.agg #[iv X, iv Y, iv 9, iv 9, .slice A n c], .agg #[iv X2, iv Y2, iv 9, iv 9, .slice A n c], .agg #[iv (X + 3), iv (Y + 3), iv 3, iv 3], iv ex, iv ez] W (fun v H => v = flt (cmpR p q) ∧ H = []) := by
  have hcm2 : c ≤ 9223372036854775807 := hcm
  obtain ⟨bA, oA, rfl, hcell⟩ := hA (by omega)
  have hat : ∀ i, i < 324 → W.cell? ⟨bA, oA + i, none⟩ = some (flt (pat i)) := fun i hi => hcell i _ (hxs i hi)
  refine Fn_.intro Try.func179 rfl rfl (by rfl) ?_
  refine CS.seq ?_
  refine CS.region ?_
  refine RS.box rfl (by rfl) (by rfl) ?_
  intro g5
  refine RS.box rfl (by rfl) (by rfl) ?_
  intro g6
  refine RS.box rfl (by rfl) (by rfl) ?_
  intro g7
  refine RS.q rfl (QO.assign) ?_
  refine RS.nil ?_
  refine thenC_n ?_
  refine CS.seq ?_
  refine CS.region ?_
  refine RS.q rfl (QO.assign) ?_
  refine RS.nil ?_
  refine thenC_n ?_
  refine CS.cut (X := SSt) (11 :: 12 :: 13 :: 14 :: 15 :: 16 :: 17 :: 18 :: 19 :: 20 :: 21 :: 22 :: 23 :: 24 :: 25 :: 26 :: 27 :: 28 :: 29 :: 30 :: 31 :: 32 :: 33 :: 34 :: 35 :: 36 :: 37 :: 38 :: 39 :: 40 :: 41 :: 42 :: 43 :: 44 :: 45 :: 46 :: 47 :: 48 :: 49 :: 50 :: 51 :: 52 :: 53 :: 54 :: 55 :: 56 :: 57 :: 58 :: 59 :: 60 :: 61 :: 62 :: 63 :: 64 :: 65 :: 66 :: 67 :: 68 :: 69 :: 70 :: 71 :: 72 :: 73 :: 74 :: 75 :: 76 :: 77 :: 78 :: 79 :: 80 :: 81 :: 82 :: 83 :: 84 :: 85 :: 86 :: 87 :: 88 :: 89 :: 90 :: 91 :: 92 :: 93 :: 94 :: 95 :: 96 :: 97 :: 98 :: 99 :: 100 :: 101 :: 102 :: 103 :: 104 :: 105 :: 106 :: 107 :: 108 :: []) (fun z => [(11, .slice (some ⟨z.g, 0, none⟩) 27 z.cap)]) (fun z => [⟨g7, 23, [iv (X + 3), iv (Y + 3), iv 3, iv 3]⟩, ⟨g6, 26, [iv X2, iv Y2, iv 9, iv 9, .slice (some ⟨bA, oA, none⟩) n c]⟩, ⟨g5, 26, [iv X, iv Y, iv 9, iv 9, .slice (some ⟨bA, oA, none⟩) n c]⟩, ⟨z.g, 33, ((cmpL p q (27)).map flt) ++ z.cs⟩]) (fun z => z.cap ≤ maxLen ∧ 27 ≤ z.cap) ?_ ?_
  · refine CS.seq ?_
    refine CS.region ?_
    refine RS.q rfl (QO.fieldAddr fo23_1 (by rfl)) ?_
    first | (refine RS.q rfl (QO.load ty3 (by rfl) (by repeat (first | exact List.Mem.head _ | refine List.Mem.tail _ ?_)) (by rfl)) ?_) | (refine RS.q rfl (QO.loadO ty3 (by rfl) (by assumption)) ?_) | (refine RS.q rfl (QO.load ty3 (by rfl) (by repeat (first | exact List.Mem.head _ | refine List.Mem.tail _ ?_)) (by assumption)) ?_)
    refine RS.q rfl (QO.assign) ?_
    refine RS.nil ?_
    refine thenC_n ?_
    refine CS.block ?_
    refine CS.loop (X := Nat × Value × HL) (11 :: 12 :: 13 :: 14 :: 15 :: 16 :: 17 :: 18 :: 19 :: 22 :: 23 :: 24 :: 25 :: 26 :: 27 :: 28 :: 29 :: 30 :: 31 :: 32 :: 33 :: 34 :: 35 :: 36 :: 37 :: 38 :: 39 :: 40 :: 41 :: 42 :: 43 :: 44 :: 45 :: 46 :: 47 :: 48 :: 49 :: 50 :: 51 :: 52 :: 53 :: 54 :: 55 :: 56 :: 57 :: 58 :: 59 :: 60 :: 61 :: 62 :: 63 :: 64 :: 65 :: 66 :: 67 :: 68 :: 69 :: 70 :: 71 :: 72 :: 73 :: 74 :: 75 :: 76 :: 77 :: 78 :: 79 :: 80 :: 81 :: 82 :: 83 :: 84 :: 85 :: 86 :: 87 :: 88 :: 89 :: 90 :: 91 :: 92 :: 93 :: 94 :: 95 :: 96 :: 97 :: 98 :: 99 :: 100 :: 101 :: 102 :: 103 :: 104 :: 105 :: 106 :: 107 :: 108 :: []) (fun z => [(12, iv (Y + 3 + (z.1 : Int))), (11, z.2.1)]) (fun z => ⟨g7, 23, [iv (X + 3), iv (Y + 3), iv 3, iv 3]⟩ :: ⟨g6, 26, [iv X2, iv Y2, iv 9, iv 9, .slice (some ⟨bA, oA, none⟩) n c]⟩ :: ⟨g5, 26, [iv X, iv Y, iv 9, iv 9, .slice (some ⟨bA, oA, none⟩) n c]⟩ :: z.2.2) (fun z => z.1 ≤ 3 ∧ Row 33 1 z.2.1 (z.1 * 9) ((cmpL p q (z.1 * 9)).map flt) z.2.2) (fun z => 3 - z.1) (0, .slice none 0 0, []) ⟨Nat.zero_le _, .nil⟩ ?_ ?_ ?_
    · exact kn_cons (congrArg iv (show Y + 3 = Y + 3 + ((0 : Nat) : Int) by omega)) (kn_cons (by rfl) kn_nil)
    · exact (by repeat (first | exact List.Sublist.refl _ | exact List.nil_sublist _ | refine List.Sublist.cons_cons _ ?_ | refine List.Sublist.cons _ ?_ | exact Sbp.refl | exact Sbp.nil | refine Sbp.cons (by repeat (first | exact Rem.head | apply Rem.tail)) ?_ | exact Sbp.app | refine Sbp.skip ?_))
    · intro z gj3 hz
      obtain ⟨j, vo, Hr⟩ := z
      obtain ⟨hj, hrow⟩ := hz
      simp only at hj hrow
      show CS _ _ _ _ _ (puts (mix _ _ _) [(12, iv (Y + 3 + (j : Int))), (11, vo)]) (⟨g7, 23, [iv (X + 3), iv (Y + 3), iv 3, iv 3]⟩ :: ⟨g6, 26, [iv X2, iv Y2, iv 9, iv 9, .slice (some ⟨bA, oA, none⟩) n c]⟩ :: ⟨g5, 26, [iv X, iv Y, iv 9, iv 9, .slice (some ⟨bA, oA, none⟩) n c]⟩ :: Hr)
      refine CS.seq ?_
      refine CS.seq ?_
      refine CS.region ?_
      refine RS.q rfl (QO.move) ?_
      refine RS.q rfl (QO.fieldAddr fo23_1 (by rfl)) ?_
      first | (refine RS.q rfl (QO.load ty3 (by rfl) (by repeat (first | exact List.Mem.head _ | refine List.Mem.tail _ ?_)) (by rfl)) ?_) | (refine RS.q rfl (QO.loadO ty3 (by rfl) (by assumption)) ?_) | (refine RS.q rfl (QO.load ty3 (by rfl) (by repeat (first | exact List.Mem.head _ | refine List.Mem.tail _ ?_)) (by assumption)) ?_)
      refine RS.q rfl (QO.fieldAddr fo23_3 (by rfl)) ?_
      first | (refine RS.q rfl (QO.load ty3 (by rfl) (by repeat (first | exact List.Mem.head _ | refine List.Mem.tail _ ?_)) (by rfl)) ?_) | (refine RS.q rfl (QO.loadO ty3 (by rfl) (by assumption)) ?_) | (refine RS.q rfl (QO.load ty3 (by rfl) (by repeat (first | exact List.Mem.head _ | refine List.Mem.tail _ ?_)) (by assumption)) ?_)
      first | (refine RS.q rfl (QO.add (by rfl) (by rfl) (by omega) (by omega)) ?_) | (refine RS.q rfl (QO.ibin (by rfl) (by rfl) trivial) ?_)
      refine RS.q rfl (QO.lss (by rfl) (by rfl)) ?_
      refine RS.nil ?_
      refine thenC_n ?_
      refine CS.cond (by rfl) (fun hb0 => ?_) (fun hb0 => ?_)
      · have hb0p := of_decide_eq_true hb0
        refine CS.skip ?_
        refine thenC_n ?_
        refine CS.seq ?_
        refine CS.block ?_
        refine CS.seq ?_
        refine CS.region ?_
        refine RS.q rfl (QO.fieldAddr fo23_0 (by rfl)) ?_
        first | (refine RS.q rfl (QO.load ty3 (by rfl) (by repeat (first | exact List.Mem.head _ | refine List.Mem.tail _ ?_)) (by rfl)) ?_) | (refine RS.q rfl (QO.loadO ty3 (by rfl) (by assumption)) ?_) | (refine RS.q rfl (QO.load ty3 (by rfl) (by repeat (first | exact List.Mem.head _ | refine List.Mem.tail _ ?_)) (by assumption)) ?_)
        refine RS.q rfl (QO.assign) ?_
        refine RS.nil ?_
        refine thenC_n ?_
        refine CS.block ?_
        refine CS.loop (X := Nat × Value × HL) (11 :: 13 :: 14 :: 15 :: 16 :: 17 :: 18 :: 19 :: 33 :: 34 :: 35 :: 36 :: 37 :: 38 :: 39 :: 40 :: 41 :: 42 :: 43 :: 44 :: 45 :: 46 :: 47 :: 48 :: 49 :: 50 :: 51 :: 52 :: 53 :: 54 :: 55 :: 56 :: 57 :: 58 :: 59 :: 60 :: 61 :: 62 :: 63 :: 64 :: 65 :: 66 :: 67 :: 68 :: 69 :: 70 :: 71 :: 72 :: 73 :: 74 :: 75 :: 76 :: 77 :: 78 :: 79 :: 80 :: 81 :: 82 :: 83 :: 84 :: 85 :: 86 :: 87 :: 88 :: 89 :: 90 :: 91 :: 92 :: 93 :: 94 :: 95 :: 96 :: 97 :: 98 :: 99 :: 100 :: 101 :: 102 :: 103 :: 104 :: 105 :: 106 :: 107 :: 108 :: []) (fun z => [(13, iv (X + 3 + (z.1 : Int))), (11, z.2.1)]) (fun z => ⟨g7, 23, [iv (X + 3), iv (Y + 3), iv 3, iv 3]⟩ :: ⟨g6, 26, [iv X2, iv Y2, iv 9, iv 9, .slice (some ⟨bA, oA, none⟩) n c]⟩ :: ⟨g5, 26, [iv X, iv Y, iv 9, iv 9, .slice (some ⟨bA, oA, none⟩) n c]⟩ :: z.2.2) (fun z => z.1 ≤ 3 ∧ Row 33 1 z.2.1 ((j * 3 + z.1) * 3) ((cmpL p q ((j * 3 + z.1) * 3)).map flt) z.2.2) (fun z => 3 - z.1) (0, vo, Hr) ⟨Nat.zero_le _, (by have e9 : (j * 3 + 0) * 3 = j * 9 := (by omega); show Row 33 1 vo ((j * 3 + 0) * 3) ((cmpL p q ((j * 3 + 0) * 3)).map flt) Hr; rw [e9]; exact hrow)⟩ ?_ ?_ ?_
        · exact kn_cons (congrArg iv (show X + 3 = X + 3 + ((0 : Nat) : Int) by omega)) (kn_cons (by rfl) kn_nil)
        · exact (by repeat (first | exact List.Sublist.refl _ | exact List.nil_sublist _ | refine List.Sublist.cons_cons _ ?_ | refine List.Sublist.cons _ ?_ | exact Sbp.refl | exact Sbp.nil | refine Sbp.cons (by repeat (first | exact Rem.head | apply Rem.tail)) ?_ | exact Sbp.app | refine Sbp.skip ?_))
        · intro z gj6 hz
          clear hrow
          obtain ⟨i, vo, Hr⟩ := z
          obtain ⟨hi, hrow⟩ := hz
          simp only at hi hrow
          show CS _ _ _ _ _ (puts (mix _ _ _) [(13, iv (X + 3 + (i : Int))), (11, vo)]) (⟨g7, 23, [iv (X + 3), iv (Y + 3), iv 3, iv 3]⟩ :: ⟨g6, 26, [iv X2, iv Y2, iv 9, iv 9, .slice (some ⟨bA, oA, none⟩) n c]⟩ :: ⟨g5, 26, [iv X, iv Y, iv 9, iv 9, .slice (some ⟨bA, oA, none⟩) n c]⟩ :: Hr)
          refine CS.seq ?_
          refine CS.seq ?_
          refine CS.region ?_
          refine RS.q rfl (QO.move) ?_
          refine RS.q rfl (QO.fieldAddr fo23_0 (by rfl)) ?_
          first | (refine RS.q rfl (QO.load ty3 (by rfl) (by repeat (first | exact List.Mem.head _ | refine List.Mem.tail _ ?_)) (by rfl)) ?_) | (refine RS.q rfl (QO.loadO ty3 (by rfl) (by assumption)) ?_) | (refine RS.q rfl (QO.load ty3 (by rfl) (by repeat (first | exact List.Mem.head _ | refine List.Mem.tail _ ?_)) (by assumption)) ?_)
          refine RS.q rfl (QO.fieldAddr fo23_2 (by rfl)) ?_
          first | (refine RS.q rfl (QO.load ty3 (by rfl) (by repeat (first | exact List.Mem.head _ | refine List.Mem.tail _ ?_)) (by rfl)) ?_) | (refine RS.q rfl (QO.loadO ty3 (by rfl) (by assumption)) ?_) | (refine RS.q rfl (QO.load ty3 (by rfl) (by repeat (first | exact List.Mem.head _ | refine List.Mem.tail _ ?_)) (by assumption)) ?_)
          first | (refine RS.q rfl (QO.add (by rfl) (by rfl) (by omega) (by omega)) ?_) | (refine RS.q rfl (QO.ibin (by rfl) (by rfl) trivial) ?_)
          refine RS.q rfl (QO.lss (by rfl) (by rfl)) ?_
          refine RS.nil ?_
          refine thenC_n ?_
          refine CS.cond (by rfl) (fun hb1 => ?_) (fun hb1 => ?_)
          · have hb1p := of_decide_eq_true hb1
            refine CS.skip ?_
            refine thenC_n ?_
            refine CS.seq ?_
            refine CS.block ?_
            refine CS.seq ?_
            refine CS.region ?_
            refine RS.q rfl (QO.move) ?_
            refine RS.q rfl (QO.fieldAddr fo26_0 (by rfl)) ?_
            refine RS.q rfl (QO.fieldAddr fo23_1 (by rfl)) ?_
            first | (refine RS.q rfl (QO.load ty3 (by rfl) (by repeat (first | exact List.Mem.head _ | refine List.Mem.tail _ ?_)) (by rfl)) ?_) | (refine RS.q rfl (QO.loadO ty3 (by rfl) (by assumption)) ?_) | (refine RS.q rfl (QO.load ty3 (by rfl) (by repeat (first | exact List.Mem.head _ | refine List.Mem.tail _ ?_)) (by assumption)) ?_)
            first | (refine RS.q rfl (QO.sub (by rfl) (by rfl) (by omega) (by omega)) ?_) | (refine RS.q rfl (QO.ibin (by rfl) (by rfl) trivial) ?_)
            refine RS.q rfl (QO.fieldAddr fo26_0 (by rfl)) ?_
            refine RS.q rfl (QO.fieldAddr fo23_2 (by rfl)) ?_
            first | (refine RS.q rfl (QO.load ty3 (by rfl) (by repeat (first | exact List.Mem.head _ | refine List.Mem.tail _ ?_)) (by rfl)) ?_) | (refine RS.q rfl (QO.loadO ty3 (by rfl) (by assumption)) ?_) | (refine RS.q rfl (QO.load ty3 (by rfl) (by repeat (first | exact List.Mem.head _ | refine List.Mem.tail _ ?_)) (by assumption)) ?_)
            first | (refine RS.q rfl (QO.mul (by rfl) (by rfl) (by omega) (by omega)) ?_) | (refine RS.q rfl (QO.ibin (by rfl) (by rfl) trivial) ?_)
            refine RS.q rfl (QO.move) ?_
            first | (refine RS.q rfl (QO.add (by rfl) (by rfl) (by omega) (by omega)) ?_) | (refine RS.q rfl (QO.ibin (by rfl) (by rfl) trivial) ?_)
            refine RS.q rfl (QO.fieldAddr fo26_0 (by rfl)) ?_
            refine RS.q rfl (QO.fieldAddr fo23_0 (by rfl)) ?_
            first | (refine RS.q rfl (QO.load ty3 (by rfl) (by repeat (first | exact List.Mem.head _ | refine List.Mem.tail _ ?_)) (by rfl)) ?_) | (refine RS.q rfl (QO.loadO ty3 (by rfl) (by assumption)) ?_) | (refine RS.q rfl (QO.load ty3 (by rfl) (by repeat (first | exact List.Mem.head _ | refine List.Mem.tail _ ?_)) (by assumption)) ?_)
            first | (refine RS.q rfl (QO.sub (by rfl) (by rfl) (by omega) (by omega)) ?_) | (refine RS.q rfl (QO.ibin (by rfl) (by rfl) trivial) ?_)
            first | (refine RS.qv rfl (QO.mul (by rfl) (by rfl) (by omega) (by omega)) (congrArg iv (show 4 * ((Y + 3 + (j : Int) - Y) * 9 + (X + 3 + (i : Int)) - X) = ((4 * ((3 + j) * 9 + 3 + i) : Nat) : Int) by omega)) ?_) | (refine RS.qv rfl (QO.ibin (by rfl) (by rfl) trivial) (congrArg iv (show 4 * ((Y + 3 + (j : Int) - Y) * 9 + (X + 3 + (i : Int)) - X) = ((4 * ((3 + j) * 9 + 3 + i) : Nat) : Int) by omega)) ?_)
            refine RS.q rfl (QO.assign) ?_
            refine RS.nil ?_
            refine thenC_n ?_
            refine CS.seq ?_
            refine CS.region ?_
            refine RS.q rfl (QO.move) ?_
            refine RS.q rfl (QO.move) ?_
            first | (refine RS.q rfl (QO.sub (by rfl) (by rfl) (by omega) (by omega)) ?_) | (refine RS.q rfl (QO.ibin (by rfl) (by rfl) trivial) ?_)
            refine RS.q rfl (QO.fieldAddr fo26_0 (by rfl)) ?_
            refine RS.q rfl (QO.fieldAddr fo23_1 (by rfl)) ?_
            first | (refine RS.q rfl (QO.load ty3 (by rfl) (by repeat (first | exact List.Mem.head _ | refine List.Mem.tail _ ?_)) (by rfl)) ?_) | (refine RS.q rfl (QO.loadO ty3 (by rfl) (by assumption)) ?_) | (refine RS.q rfl (QO.load ty3 (by rfl) (by repeat (first | exact List.Mem.head _ | refine List.Mem.tail _ ?_)) (by assumption)) ?_)
            first | (refine RS.q rfl (QO.sub (by rfl) (by rfl) (by omega) (by omega)) ?_) | (refine RS.q rfl (QO.ibin (by rfl) (by rfl) trivial) ?_)
            refine RS.q rfl (QO.fieldAddr fo26_0 (by rfl)) ?_
            refine RS.q rfl (QO.fieldAddr fo23_2 (by rfl)) ?_
            first | (refine RS.q rfl (QO.load ty3 (by rfl) (by repeat (first | exact List.Mem.head _ | refine List.Mem.tail _ ?_)) (by rfl)) ?_) | (refine RS.q rfl (QO.loadO ty3 (by rfl) (by assumption)) ?_) | (refine RS.q rfl (QO.load ty3 (by rfl) (by repeat (first | exact List.Mem.head _ | refine List.Mem.tail _ ?_)) (by assumption)) ?_)
            first | (refine RS.q rfl (QO.mul (by rfl) (by rfl) (by omega) (by omega)) ?_) | (refine RS.q rfl (QO.ibin (by rfl) (by rfl) trivial) ?_)
            refine RS.q rfl (QO.move) ?_
            first | (refine RS.q rfl (QO.add (by rfl) (by rfl) (by omega) (by omega)) ?_) | (refine RS.q rfl (QO.ibin (by rfl) (by rfl) trivial) ?_)
            refine RS.q rfl (QO.move) ?_
            first | (refine RS.q rfl (QO.sub (by rfl) (by rfl) (by omega) (by omega)) ?_) | (refine RS.q rfl (QO.ibin (by rfl) (by rfl) trivial) ?_)
            refine RS.q rfl (QO.fieldAddr fo26_0 (by rfl)) ?_
            refine RS.q rfl (QO.fieldAddr fo23_0 (by rfl)) ?_
            first | (refine RS.q rfl (QO.load ty3 (by rfl) (by repeat (first | exact List.Mem.head _ | refine List.Mem.tail _ ?_)) (by rfl)) ?_) | (refine RS.q rfl (QO.loadO ty3 (by rfl) (by assumption)) ?_) | (refine RS.q rfl (QO.load ty3 (by rfl) (by repeat (first | exact List.Mem.head _ | refine List.Mem.tail _ ?_)) (by assumption)) ?_)
            first | (refine RS.q rfl (QO.sub (by rfl) (by rfl) (by omega) (by omega)) ?_) | (refine RS.q rfl (QO.ibin (by rfl) (by rfl) trivial) ?_)
            first | (refine RS.qv rfl (QO.mul (by rfl) (by rfl) (by omega) (by omega)) (congrArg iv (show 4 * ((Y + 3 + (j : Int) - ez - Y2) * 9 + (X + 3 + (i : Int)) - ex - X2) = ((4 * ((1 + q + j) * 9 + 1 + p + i) : Nat) : Int) by omega)) ?_) | (refine RS.qv rfl (QO.ibin (by rfl) (by rfl) trivial) (congrArg iv (show 4 * ((Y + 3 + (j : Int) - ez - Y2) * 9 + (X + 3 + (i : Int)) - ex - X2) = ((4 * ((1 + q + j) * 9 + 1 + p + i) : Nat) : Int) by omega)) ?_)
            refine RS.q rfl (QO.assign) ?_
            refine RS.nil ?_
            refine thenC_n ?_
            refine CS.seq ?_
            refine CS.region ?_
            refine RS.q rfl (QO.move) ?_
            refine RS.nil ?_
            refine thenC_n ?_
            refine CS.block ?_
            refine CS.loop (X := Nat × Value × HL) (11 :: 16 :: 17 :: 18 :: 19 :: 78 :: 79 :: 80 :: 81 :: 82 :: 83 :: 84 :: 85 :: 86 :: 87 :: 88 :: 89 :: 90 :: 91 :: 92 :: 93 :: 94 :: 95 :: 96 :: 97 :: 98 :: 99 :: 100 :: 101 :: 102 :: 103 :: 104 :: 105 :: 106 :: 107 :: 108 :: []) (fun z => [(78, iv (z.1 : Int)), (11, z.2.1)]) (fun z => ⟨g7, 23, [iv (X + 3), iv (Y + 3), iv 3, iv 3]⟩ :: ⟨g6, 26, [iv X2, iv Y2, iv 9, iv 9, .slice (some ⟨bA, oA, none⟩) n c]⟩ :: ⟨g5, 26, [iv X, iv Y, iv 9, iv 9, .slice (some ⟨bA, oA, none⟩) n c]⟩ :: z.2.2) (fun z => z.1 ≤ 3 ∧ Row 33 1 z.2.1 ((j * 3 + i) * 3 + z.1) ((cmpL p q ((j * 3 + i) * 3 + z.1)).map flt) z.2.2) (fun z => 3 - z.1) (0, vo, Hr) ⟨Nat.zero_le _, hrow⟩ ?_ ?_ ?_
            · exact (by repeat (first | exact kn_nil | refine kn_cons (by rfl) ?_))
            · exact (by repeat (first | exact List.Sublist.refl _ | exact List.nil_sublist _ | refine List.Sublist.cons_cons _ ?_ | refine List.Sublist.cons _ ?_ | exact Sbp.refl | exact Sbp.nil | refine Sbp.cons (by repeat (first | exact Rem.head | apply Rem.tail)) ?_ | exact Sbp.app | refine Sbp.skip ?_))
            · intro z gj11 hz
              clear hrow
              obtain ⟨cc, vo, Hr⟩ := z
              obtain ⟨hcc, hrow⟩ := hz
              simp only at hcc hrow
              show CS _ _ _ _ _ (puts (mix _ _ _) [(78, iv (cc : Int)), (11, vo)]) (⟨g7, 23, [iv (X + 3), iv (Y + 3), iv 3, iv 3]⟩ :: ⟨g6, 26, [iv X2, iv Y2, iv 9, iv 9, .slice (some ⟨bA, oA, none⟩) n c]⟩ :: ⟨g5, 26, [iv X, iv Y, iv 9, iv 9, .slice (some ⟨bA, oA, none⟩) n c]⟩ :: Hr)
              refine CS.seq ?_
              refine CS.region ?_
              refine RS.q rfl (QO.lss (by rfl) (by rfl)) ?_
              refine RS.nil ?_
              refine thenC_n ?_
              refine CS.seq ?_
              refine CS.cond (by rfl) (fun hb2 => ?_) (fun hb2 => ?_)
              · have hb2p := of_decide_eq_true hb2
                refine CS.skip ?_
                refine thenC_n ?_
                refine CS.seq ?_
                refine CS.block ?_
                refine CS.seq ?_
                refine CS.region ?_
                refine RS.q rfl (QO.move) ?_
                refine RS.q rfl (QO.assign) ?_
                refine RS.nil ?_
                refine thenC_n ?_
                refine CS.seq ?_
                refine CS.draw 16 rfl (by kernel_rfl) (by kernel_rfl) ?_
                refine RT.take (i := 0) rfl (by kernel_rfl) rfl (QO.fieldAddr fo26_1 (by rfl)) ?_
                first | (refine RT.take (i := 1) rfl (by kernel_rfl) rfl (QO.load ty24 (by rfl) (by repeat (first | exact List.Mem.head _ | refine List.Mem.tail _ ?_)) (by rfl)) ?_) | (refine RT.take (i := 1) rfl (by kernel_rfl) rfl (QO.loadO ty24 (by rfl) (by assumption)) ?_) | (refine RT.take (i := 1) rfl (by kernel_rfl) rfl (QO.load ty24 (by rfl) (by repeat (first | exact List.Mem.head _ | refine List.Mem.tail _ ?_)) (by assumption)) ?_)
                refine RT.take (i := 2) rfl (by kernel_rfl) rfl (QO.move) ?_
                refine RT.take (i := 3) rfl (by kernel_rfl) rfl (QO.move) ?_
                first | (refine RT.takev (i := 4) rfl (by kernel_rfl) rfl (QO.add (by rfl) (by rfl) (by omega) (by omega)) (congrArg iv (show (((4 * ((3 + j) * 9 + 3 + i) : Nat) : Int)) + (cc : Int) = ((4 * ((3 + j) * 9 + 3 + i) + cc : Nat) : Int) by omega)) ?_) | (refine RT.takev (i := 4) rfl (by kernel_rfl) rfl (QO.ibin (by rfl) (by rfl) trivial) (congrArg iv (show (((4 * ((3 + j) * 9 + 3 + i) : Nat) : Int)) + (cc : Int) = ((4 * ((3 + j) * 9 + 3 + i) + cc : Nat) : Int) by omega)) ?_)
                first | (refine RT.take (i := 5) rfl (by kernel_rfl) rfl (QO.idx0 Try.underlying24 ty33 (by rfl) (by rfl) (by rfl) (by omega)) ?_) | (refine RT.take (i := 5) rfl (by kernel_rfl) rfl (QO.idxn Try.underlying24 ty33 (by rfl) (by rfl) (by rfl) (by omega)) ?_) | (refine RT.take (i := 5) rfl (by kernel_rfl) rfl (QO.idx1 Try.underlying24 ty33 (by rfl) (by rfl) (by omega) (by omega)) ?_)
                refine RT.take (i := 6) rfl (by kernel_rfl) rfl (QO.loadO ty33 (by rfl) (hat (4 * ((3 + j) * 9 + 3 + i) + cc) (by omega))) ?_
                refine RT.take (i := 7) rfl (by kernel_rfl) rfl (QO.fieldAddr fo26_1 (by rfl)) ?_
                first | (refine RT.take (i := 8) rfl (by kernel_rfl) rfl (QO.load ty24 (by rfl) (by repeat (first | exact List.Mem.head _ | refine List.Mem.tail _ ?_)) (by rfl)) ?_) | (refine RT.take (i := 8) rfl (by kernel_rfl) rfl (QO.loadO ty24 (by rfl) (by assumption)) ?_) | (refine RT.take (i := 8) rfl (by kernel_rfl) rfl (QO.load ty24 (by rfl) (by repeat (first | exact List.Mem.head _ | refine List.Mem.tail _ ?_)) (by assumption)) ?_)
                refine RT.take (i := 9) rfl (by kernel_rfl) rfl (QO.move) ?_
                refine RT.take (i := 10) rfl (by kernel_rfl) rfl (QO.move) ?_
                first | (refine RT.takev (i := 11) rfl (by kernel_rfl) rfl (QO.add (by rfl) (by rfl) (by omega) (by omega)) (congrArg iv (show (((4 * ((1 + q + j) * 9 + 1 + p + i) : Nat) : Int)) + (cc : Int) = ((4 * ((1 + q + j) * 9 + 1 + p + i) + cc : Nat) : Int) by omega)) ?_) | (refine RT.takev (i := 11) rfl (by kernel_rfl) rfl (QO.ibin (by rfl) (by rfl) trivial) (congrArg iv (show (((4 * ((1 + q + j) * 9 + 1 + p + i) : Nat) : Int)) + (cc : Int) = ((4 * ((1 + q + j) * 9 + 1 + p + i) + cc : Nat) : Int) by omega)) ?_)
                first | (refine RT.take (i := 12) rfl (by kernel_rfl) rfl (QO.idx0 Try.underlying24 ty33 (by rfl) (by rfl) (by rfl) (by omega)) ?_) | (refine RT.take (i := 12) rfl (by kernel_rfl) rfl (QO.idxn Try.underlying24 ty33 (by rfl) (by rfl) (by rfl) (by omega)) ?_) | (refine RT.take (i := 12) rfl (by kernel_rfl) rfl (QO.idx1 Try.underlying24 ty33 (by rfl) (by rfl) (by omega) (by omega)) ?_)
                refine RT.take (i := 13) rfl (by kernel_rfl) rfl (QO.loadO ty33 (by rfl) (hat (4 * ((1 + q + j) * 9 + 1 + p + i) + cc) (by omega))) ?_
                refine RT.take (i := 14) rfl (by kernel_rfl) rfl (QO.assign) ?_
                refine RT.take (i := 15) rfl (by kernel_rfl) rfl (QO.assign) ?_
                refine RT.done (by kernel_rfl) ?_
                refine thenC_n ?_
                refine CS.seq ?_
                refine CS.region ?_
                refine RS.q rfl (QO.assign) ?_
                refine RS.nil ?_
                refine thenC_n ?_
                refine CS.cut (X := Unit) [19, 95, 96, 97, 98, 99, 100, 101, 102, 103] (fun z => [(19, flt (dif (pat (4 * ((3 + j) * 9 + 3 + i) + cc)) (pat (4 * ((1 + q + j) * 9 + 1 + p + i) + cc))))]) (fun z => ⟨g7, 23, [iv (X + 3), iv (Y + 3), iv 3, iv 3]⟩ :: ⟨g6, 26, [iv X2, iv Y2, iv 9, iv 9, .slice (some ⟨bA, oA, none⟩) n c]⟩ :: ⟨g5, 26, [iv X, iv Y, iv 9, iv 9, .slice (some ⟨bA, oA, none⟩) n c]⟩ :: Hr) (fun z => True) ?_ ?_
                · refine CS.seq ?_
                  refine CS.region ?_
                  refine RS.q rfl (QO.move) ?_
                  refine RS.call rfl (by rfl) ok110 (by rfl) (fun w ho => bits _ _) ?_
                  rintro _ _ ⟨rfl, rfl⟩
                  refine RS.q rfl (QO.move) ?_
                  refine RS.call rfl (by rfl) ok110 (by rfl) (fun w ho => bits _ _) ?_
                  rintro _ _ ⟨rfl, rfl⟩
                  refine RS.q rfl (QO.neq (by rfl) (by rfl)) ?_
                  refine RS.nil ?_
                  refine thenC_n ?_
                  refine CS.cond (by rfl) (fun hb3 => ?_) (fun hb3 => ?_)
                  · have hb3p := bne_iff_ne.1 hb3
                    refine CS.region ?_
                    refine RS.q rfl (QO.move) ?_
                    refine RS.q rfl (QO.move) ?_
                    refine RS.farith rfl (by rfl) (by rfl) (by simp) ?_
                    intro r102 hr102
                    have hx1 := dif_T hb3p hr102 (dif_ok0 p hp q hq j (by omega) i (by omega) cc (by omega))
                    obtain ⟨s, hs1, hs2⟩ := hx1
                    refine RS.call rfl (by rfl) ok218 (by rfl) (fun w ho => abs_ _ s _ hs1) ?_
                    rintro _ _ ⟨rfl, rfl⟩
                    refine RS.q rfl (QO.assign) ?_
                    refine RS.nil ?_
                    refine cutQ_n (by intro t ht; repeat (first | with_reducible exact rfl | exact frame_puts ht (frame_mix ht) _ rfl | (refine frame_put rfl ht ?_) | (refine frame_puts ht ?_ _ rfl) | exact frame_mix ht | (refine frame_mix2 rfl ht ?_) | exact rfl)) ?_
                    exact ⟨(), trivial, kn_cons (congrArg flt hs2) kn_nil, (by repeat (first | exact List.Sublist.refl _ | exact List.nil_sublist _ | refine List.Sublist.cons_cons _ ?_ | refine List.Sublist.cons _ ?_ | exact Sbp.refl | exact Sbp.nil | refine Sbp.cons (by repeat (first | exact Rem.head | apply Rem.tail)) ?_ | exact Sbp.app | refine Sbp.skip ?_))⟩
                  · have hb3p := of_bne_false hb3
                    refine CS.skip ?_
                    refine cutQ_n (by intro t ht; repeat (first | with_reducible exact rfl | exact frame_puts ht (frame_mix ht) _ rfl | (refine frame_put rfl ht ?_) | (refine frame_puts ht ?_ _ rfl) | exact frame_mix ht | (refine frame_mix2 rfl ht ?_) | exact rfl)) ?_
                    exact ⟨(), trivial, kn_cons (congrArg flt (dif_F hb3p)) kn_nil, (by repeat (first | exact List.Sublist.refl _ | exact List.nil_sublist _ | refine List.Sublist.cons_cons _ ?_ | refine List.Sublist.cons _ ?_ | exact Sbp.refl | exact Sbp.nil | refine Sbp.cons (by repeat (first | exact Rem.head | apply Rem.tail)) ?_ | exact Sbp.app | refine Sbp.skip ?_))⟩
                · intro z gj hz
                  clear hz
                  refine CS.region ?_
                  refine RS.q rfl (QO.move) ?_
                  refine RS.q rfl (QO.move) ?_
                  refine RS.buildSlice rfl Try.underlying24 ty33 (by decide) (by decide) (by rfl) (by rfl) ?_
                  intro g106
                  refine RS.appendRow rfl Try.underlying24 ty33 (by rfl) hrow (by repeat (first | exact Suf.base | apply Suf.cons)) (by rfl) (Src.blk (by repeat (first | exact List.Mem.head _ | refine List.Mem.tail _ ?_))) (by rfl) (by rfl) (by decide) (by decide) (by unfold maxLen; omega) (by omega) ?_
                  intro v107 H107 hrow107
                  refine RS.q rfl (QO.assign) ?_
                  refine RS.nil ?_
                  refine blockC_n ?_
                  refine thenC_n ?_
                  refine CS.region ?_
                  first | (refine RS.q rfl (QO.add (by rfl) (by rfl) (by omega) (by omega)) ?_) | (refine RS.q rfl (QO.ibin (by rfl) (by rfl) trivial) ?_)
                  refine RS.q rfl (QO.move) ?_
                  refine RS.nil ?_
                  refine loopQ_n (by intro t ht; repeat (first | with_reducible exact rfl | exact frame_puts ht (frame_mix ht) _ rfl | (refine frame_put rfl ht ?_) | (refine frame_puts ht ?_ _ rfl) | exact frame_mix ht | (refine frame_mix2 rfl ht ?_) | exact rfl)) ?_
                  have hr9 : Row 33 1 v107 ((j * 3 + i) * 3 + (cc + 1)) ((cmpL p q ((j * 3 + i) * 3 + (cc + 1))).map flt) H107 := by
                    rw [← Nat.add_assoc, cmpL_succ, cmpF_at (by omega) (by omega), List.map_append]; exact hrow107
                  exact ⟨(cc + 1, v107, H107), ⟨by show cc + 1 ≤ 3; omega, hr9⟩, by show 3 - (cc + 1) < 3 - cc; omega, (by repeat (first | exact kn_nil | refine kn_cons (by rfl) ?_)), (by repeat (first | exact List.Sublist.refl _ | exact List.nil_sublist _ | refine List.Sublist.cons_cons _ ?_ | refine List.Sublist.cons _ ?_ | exact Sbp.refl | exact Sbp.nil | refine Sbp.cons (by repeat (first | exact Rem.head | apply Rem.tail)) ?_ | exact Sbp.app | refine Sbp.skip ?_))⟩
              · have hb2p := of_decide_eq_false hb2
                refine CS.exit ?_
                refine thenC_x ?_
                refine loopQ_x ?_
                refine blockC_x ?_
                refine blockC_n ?_
                refine thenC_n ?_
                refine CS.region ?_
                refine RS.q rfl (QO.move) ?_
                first | (refine RS.q rfl (QO.add (by rfl) (by rfl) (by omega) (by omega)) ?_) | (refine RS.q rfl (QO.ibin (by rfl) (by rfl) trivial) ?_)
                refine RS.q rfl (QO.assign) ?_
                refine RS.nil ?_
                refine loopQ_n (by intro t ht; repeat (first | with_reducible exact rfl | exact frame_puts ht (frame_mix ht) _ rfl | (refine frame_put rfl ht ?_) | (refine frame_puts ht ?_ _ rfl) | exact frame_mix ht | (refine frame_mix2 rfl ht ?_) | exact rfl)) ?_
                have hc3 : cc = 3 := by omega
                have hr9 : Row 33 1 vo ((j * 3 + (i + 1)) * 3) ((cmpL p q ((j * 3 + (i + 1)) * 3)).map flt) Hr := by
                  have e9 : (j * 3 + i) * 3 + cc = (j * 3 + (i + 1)) * 3 := by omega
                  rw [← e9]; exact hrow
                exact ⟨(i + 1, vo, Hr), ⟨by show i + 1 ≤ 3; omega, hr9⟩, by show 3 - (i + 1) < 3 - i; omega, kn_cons (congrArg iv (show X + 3 + (i : Int) + 1 = X + 3 + ((i + 1 : Nat) : Int) by omega)) (kn_cons (by rfl) kn_nil), (by repeat (first | exact List.Sublist.refl _ | exact List.nil_sublist _ | refine List.Sublist.cons_cons _ ?_ | refine List.Sublist.cons _ ?_ | exact Sbp.refl | exact Sbp.nil | refine Sbp.cons (by repeat (first | exact Rem.head | apply Rem.tail)) ?_ | exact Sbp.app | refine Sbp.skip ?_))⟩
          · have hb1p := of_decide_eq_false hb1
            refine CS.exit ?_
            refine thenC_x ?_
            refine loopQ_x ?_
            refine blockC_x ?_
            refine blockC_n ?_
            refine thenC_n ?_
            refine CS.region ?_
            refine RS.q rfl (QO.move) ?_
            first | (refine RS.q rfl (QO.add (by rfl) (by rfl) (by omega) (by omega)) ?_) | (refine RS.q rfl (QO.ibin (by rfl) (by rfl) trivial) ?_)
            refine RS.q rfl (QO.assign) ?_
            refine RS.nil ?_
            refine loopQ_n (by intro t ht; repeat (first | with_reducible exact rfl | exact frame_puts ht (frame_mix ht) _ rfl | (refine frame_put rfl ht ?_) | (refine frame_puts ht ?_ _ rfl) | exact frame_mix ht | (refine frame_mix2 rfl ht ?_) | exact rfl)) ?_
            have hi3 : i = 3 := by omega
            have hr9 : Row 33 1 vo ((j + 1) * 9) ((cmpL p q ((j + 1) * 9)).map flt) Hr := by
              have e9 : (j * 3 + i) * 3 = (j + 1) * 9 := by omega
              rw [← e9]; exact hrow
            exact ⟨(j + 1, vo, Hr), ⟨by show j + 1 ≤ 3; omega, hr9⟩, by show 3 - (j + 1) < 3 - j; omega, kn_cons (congrArg iv (show Y + 3 + (j : Int) + 1 = Y + 3 + ((j + 1 : Nat) : Int) by omega)) (kn_cons (by rfl) kn_nil), (by repeat (first | exact List.Sublist.refl _ | exact List.nil_sublist _ | refine List.Sublist.cons_cons _ ?_ | refine List.Sublist.cons _ ?_ | exact Sbp.refl | exact Sbp.nil | refine Sbp.cons (by repeat (first | exact Rem.head | apply Rem.tail)) ?_ | exact Sbp.app | refine Sbp.skip ?_))⟩
      · have hb0p := of_decide_eq_false hb0
        refine CS.exit ?_
        refine thenC_x ?_
        refine loopQ_x ?_
        refine blockC_x ?_
        refine cutQ_n (by intro t ht; repeat (first | with_reducible exact rfl | exact frame_puts ht (frame_mix ht) _ rfl | (refine frame_put rfl ht ?_) | (refine frame_puts ht ?_ _ rfl) | exact frame_mix ht | (refine frame_mix2 rfl ht ?_) | exact rfl)) ?_
        have hj3 : j = 3 := by omega
        rw [hj3] at hrow
        have hx9 := row_slice hrow (by decide)
        obtain ⟨gl2, cp2, jk2, hv9, hH9, h91, h92⟩ := hx9
        exact ⟨⟨gl2, cp2, jk2⟩, ⟨h92, h91⟩, kn_cons hv9 kn_nil, (by rw [hH9]; exact (by repeat (first | exact List.Sublist.refl _ | exact List.nil_sublist _ | refine List.Sublist.cons_cons _ ?_ | refine List.Sublist.cons _ ?_ | exact Sbp.refl | exact Sbp.nil | refine Sbp.cons (by repeat (first | exact Rem.head | apply Rem.tail)) ?_ | exact Sbp.app | refine Sbp.skip ?_)))⟩
  · intro z gj hz
    obtain ⟨gl, cap, cs⟩ := z
    obtain ⟨hz1, hz2⟩ := hz
    simp only at hz1 hz2
    show CS _ _ _ _ _ (puts (mix _ _ _) [(11, .slice (some ⟨gl, 0, none⟩) 27 cap)]) ([⟨g7, 23, [iv (X + 3), iv (Y + 3), iv 3, iv 3]⟩, ⟨g6, 26, [iv X2, iv Y2, iv 9, iv 9, .slice (some ⟨bA, oA, none⟩) n c]⟩, ⟨g5, 26, [iv X, iv Y, iv 9, iv 9, .slice (some ⟨bA, oA, none⟩) n c]⟩, ⟨gl, 33, ((cmpL p q (27)).map flt) ++ cs⟩])
    refine CS.seq ?_
    refine CS.region ?_
    refine RS.q rfl (QO.move) ?_
    refine RS.call rfl (by rfl) ok113 (by rfl) (fun w ho => sum_ (cmpL p q 27) _ 27 cap _ (cmpL_len ..) hz2 hz1 (FS.blk ho (by repeat (first | exact List.Mem.head _ | refine List.Mem.tail _ ?_)))) ?_
    rintro _ _ ⟨rfl, rfl⟩
    refine RS.q rfl (QO.move) ?_
    refine RS.q rfl (QO.lenS Try.underlying24 (by rfl)) ?_
    refine RS.q rfl (QO.conv_i64_f32 Try.underlying3 Try.underlying33 (by rfl)) ?_
    refine RS.farith rfl (by rfl) (by rfl) (by simp) ?_
    intro r114 hr114
    refine RS.call rfl (by rfl) ok117 (by rfl) (fun w ho => clean _ _) ?_
    rintro _ _ ⟨rfl, rfl⟩
    refine RS.q rfl (QO.assign) ?_
    refine RS.nil ?_
    refine thenC_n ?_
    refine CS.ret ?_
    refine retQ.mk (H' := []) (.inr rfl) (RVs.tmp (by rfl) RVs.nil) (List.nil_sublist _) ?_
    exact ⟨congrArg flt (FR.cl hr114), rfl⟩

set_option maxRecDepth 100000 in
theorem checkBoth (X Y X2 Y2 : Int) (A : Option Addr) (n c : Nat) (W : World) (h1 : frErr X Y 9 9 n = 0) (h2 : frErr X2 Y2 9 9 n = 0) : Fn_ Try.prog 178 #[.agg #[iv X, iv Y, iv 9, iv 9, .slice A n c], .agg #[iv X2, iv Y2, iv 9, iv 9, .slice A n c]] W (fun v H => v = iv 0 ∧ H = []) := by
  refine Fn_.intro Try.func178 rfl rfl (by rfl) ?_
  refine CS.seq ?_
  refine CS.region ?_
  refine RS.box rfl (by rfl) (by rfl) ?_
  intro g2
  refine RS.box rfl (by rfl) (by rfl) ?_
  intro g3
  refine RS.q rfl (QO.assign) ?_
  refine RS.nil ?_
  refine thenC_n ?_
  refine CS.seq ?_
  refine CS.seq ?_
  refine CS.region ?_
  first | (refine RS.q rfl (QO.loadB ty26 (by rfl) (by repeat (first | exact List.Mem.head _ | refine List.Mem.tail _ ?_)) (by rfl)) ?_) | (refine RS.q rfl (QO.loadA ty26 (by rfl) (by repeat (first | exact List.Mem.head _ | refine List.Mem.tail _ ?_)) (by rfl) (by rfl)) ?_) | (refine RS.q rfl (QO.loadOA ty26 (by rfl) (by assumption) (by rfl)) ?_)
  refine RS.call rfl (by rfl) ok116 (by rfl) (fun w ho => check _ _ _ _ _ _ _ _) ?_
  rintro _ _ ⟨rfl, rfl⟩
  refine RS.q rfl (QO.assign) ?_
  refine RS.nil ?_
  refine thenC_n ?_
  refine CS.seq ?_
  refine CS.region ?_
  refine RS.q rfl (QO.move) ?_
  refine RS.qv rfl (QO.neq (by rfl) (by rfl)) (congrArg Value.bool (show (frErr X Y 9 9 n != 0) = false from by rw [h1]; rfl)) ?_
  refine RS.nil ?_
  refine thenC_n ?_
  refine CS.condF (by rfl) rfl ?_
  refine CS.skip ?_
  refine thenC_n ?_
  refine CS.seq ?_
  refine CS.region ?_
  first | (refine RS.q rfl (QO.loadB ty26 (by rfl) (by repeat (first | exact List.Mem.head _ | refine List.Mem.tail _ ?_)) (by rfl)) ?_) | (refine RS.q rfl (QO.loadA ty26 (by rfl) (by repeat (first | exact List.Mem.head _ | refine List.Mem.tail _ ?_)) (by rfl) (by rfl)) ?_) | (refine RS.q rfl (QO.loadOA ty26 (by rfl) (by assumption) (by rfl)) ?_)
  refine RS.call rfl (by rfl) ok116 (by rfl) (fun w ho => check _ _ _ _ _ _ _ _) ?_
  rintro _ _ ⟨rfl, rfl⟩
  refine RS.q rfl (QO.assign) ?_
  refine RS.nil ?_
  refine thenC_n ?_
  refine CS.ret ?_
  refine retQ.mk (H' := []) (.inr rfl) (RVs.tmp (by rfl) RVs.nil) (List.nil_sublist _) ?_
  exact ⟨congrArg iv h2, rfl⟩

end Go.Proofs.Ytplfeaikjgfhcaa
