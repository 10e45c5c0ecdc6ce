/-
  Contracts: regions grown, met, cut into tiles. Conditions: as each theorem says.
-/
import Derived.Test.YtapcgokcfmklbaaDoorC8
import Derived.Test.YtapcgokcfmklbaaDoorTile
namespace Go.Proofs.YtapcgokcfmklbaaDoor
open Go Go.Proofs Go.RowKit

theorem ok95 : callOK Tryd.prog 95 = true := by kernel_rfl

theorem tup2 {p p' q q' : Int} (h : p = p') (h2 : q = q') : Value.tuple #[iv p, iv q] = Value.tuple #[iv p', iv q'] := by subst h h2; rfl
theorem cmv {T T' : Rg} {b b' : Bool} (h : T = T') (h2 : b = b') : Value.tuple #[.agg (rgc T).toArray, .bool b] = Value.tuple #[.agg (rgc T').toArray, .bool b'] := by subst h h2; rfl
theorem gv {T T' : Rg} {e e' : Int} (h : T = T') (h2 : e = e') : Value.tuple #[.agg (rgc T).toArray, iv e] = Value.tuple #[.agg (rgc T').toArray, iv e'] := by subst h h2; rfl
theorem tv {vs : Value} {e e' : Int} (h2 : e = e') : Value.tuple #[vs, iv e] = Value.tuple #[vs, iv e'] := by subst h2; rfl
theorem trow_nil {L : List Rg} (h : L = []) : Row 31 4 (.slice none 0 0) L.length (rgs L) [] := by subst h; exact .nil
theorem trow {L L' : List Rg} {v : Value} {H : HL} (h : L = L') (k : Row 31 4 v L'.length (rgs L') H) : Row 31 4 v L.length (rgs L) H := by subst h; exact k

set_option maxRecDepth 100000 in
theorem quotient (a : Int) (s : Nat) (W : World) (hs : 1 ≤ s) (hs2 : s ≤ 256) (ha : -1000000000000 ≤ a ∧ a ≤ 1000000000000) : Fn_ Tryd.prog 95 #[iv a, iv (s : Int)] W (fun v H => v = .tuple #[iv (a / (s : Int)), iv (a % (s : Int))] ∧ H = []) := by
  have htb := tdiv_bd (s := s) ha
  have htm := tmod_bd (a := a) hs
  refine Fn_.intro Tryd.func95 rfl rfl (by rfl) ?_
  refine CS.seq ?_
  refine CS.region ?_
  refine RS.q rfl (QO.assign) ?_
  refine RS.q rfl (QO.assign) ?_
  refine RS.nil ?_
  refine thenC_n ?_
  refine CS.seq ?_
  refine CS.draw 8 rfl (by kernel_rfl) (by kernel_rfl) ?_
  refine RT.take (i := 0) rfl (by kernel_rfl) rfl (QO.move) ?_
  refine RT.take (i := 1) rfl (by kernel_rfl) rfl (QO.move) ?_
  refine RT.take (i := 2) rfl (by kernel_rfl) rfl (QO.quo (by rfl) (by rfl) (by omega) (by omega) (by omega)) ?_
  refine RT.take (i := 3) rfl (by kernel_rfl) rfl (QO.move) ?_
  refine RT.take (i := 4) rfl (by kernel_rfl) rfl (QO.move) ?_
  refine RT.take (i := 5) rfl (by kernel_rfl) rfl (QO.rem (by rfl) (by rfl) (by omega)) ?_
  refine RT.take (i := 6) rfl (by kernel_rfl) rfl (QO.assign) ?_
  refine RT.take (i := 7) rfl (by kernel_rfl) rfl (QO.assign) ?_
  refine RT.done (by kernel_rfl) ?_
  refine thenC_n ?_
  refine CS.seq ?_
  refine CS.seq ?_
  refine CS.region ?_
  refine RS.q rfl (QO.move) ?_
  refine RS.q rfl (QO.lss (by rfl) (by rfl)) ?_
  refine RS.nil ?_
  refine thenC_n ?_
  refine CS.cond (by rfl) (fun hb0 => ?_) (fun hb0 => ?_)
  · have hb0p := of_decide_eq_true hb0
    refine CS.region ?_
    refine RS.q rfl (QO.move) ?_
    first | (refine RS.q rfl (QO.sub (by rfl) (by rfl) (by omega) (by omega)) ?_) | (refine RS.q rfl (QO.ibin (by rfl) (by rfl) trivial) ?_)
    refine RS.q rfl (QO.move) ?_
    refine RS.q rfl (QO.move) ?_
    first | (refine RS.q rfl (QO.add (by rfl) (by rfl) (by omega) (by omega)) ?_) | (refine RS.q rfl (QO.ibin (by rfl) (by rfl) trivial) ?_)
    refine RS.q rfl (QO.assign) ?_
    refine RS.q rfl (QO.assign) ?_
    refine RS.nil ?_
    refine thenC_n ?_
    refine CS.seq ?_
    refine CS.region ?_
    refine RS.q rfl (QO.move) ?_
    refine RS.q rfl (QO.move) ?_
    refine RS.q rfl (QO.assign) ?_
    refine RS.q rfl (QO.assign) ?_
    refine RS.nil ?_
    refine thenC_n ?_
    refine CS.ret ?_
    refine retQ.mk (H' := []) (.inr rfl) (RVs.tmp (by rfl) (RVs.tmp (by rfl) RVs.nil)) (List.nil_sublist _) ?_
    have h9 := fdiv_neg hs hb0p
    exact ⟨tup2 h9.1 h9.2, rfl⟩
  · have hb0p := of_decide_eq_false hb0
    refine CS.skip ?_
    refine thenC_n ?_
    refine CS.seq ?_
    refine CS.region ?_
    refine RS.q rfl (QO.move) ?_
    refine RS.q rfl (QO.move) ?_
    refine RS.q rfl (QO.assign) ?_
    refine RS.q rfl (QO.assign) ?_
    refine RS.nil ?_
    refine thenC_n ?_
    refine CS.ret ?_
    refine retQ.mk (H' := []) (.inr rfl) (RVs.tmp (by rfl) (RVs.tmp (by rfl) RVs.nil)) (List.nil_sublist _) ?_
    have h9 := fdiv_pos hs hb0p
    exact ⟨tup2 h9.1 h9.2, rfl⟩

theorem g_1 {x y w h n e1 e2 : Int} (h1 : e1 ≠ 0) : gErr x y w h n e1 e2 = e1 ∧ gT x y w h n (gErr x y w h n e1 e2) = (0, 0, 0, 0) := by
  have h2 : gErr x y w h n e1 e2 = e1 := if_pos h1
  exact ⟨h2, by rw [h2]; exact if_neg h1⟩
theorem g_2 {x y w h n e1 e2 : Int} (h1 : e1 = 0) (hn : n < -256 ∨ 256 < n) : gErr x y w h n e1 e2 = 3 ∧ gT x y w h n (gErr x y w h n e1 e2) = (0, 0, 0, 0) := by
  have h2 : gErr x y w h n e1 e2 = 3 := by unfold gErr; rw [if_neg (Decidable.not_not.2 h1), if_pos hn]
  exact ⟨h2, by rw [h2]; rfl⟩
theorem g_3 {x y w h n e1 e2 : Int} (h1 : e1 = 0) (hn : ¬ (n < -256 ∨ 256 < n)) : gErr x y w h n e1 e2 = e2 := by unfold gErr; rw [if_neg (Decidable.not_not.2 h1), if_neg hn]
theorem g_4 {x y w h n e1 e2 : Int} (h1 : e1 = 0) (hn : ¬ (n < -256 ∨ 256 < n)) (h2 : e2 ≠ 0) : gErr x y w h n e1 e2 = e2 ∧ gT x y w h n (gErr x y w h n e1 e2) = (0, 0, 0, 0) := ⟨g_3 h1 hn, by rw [g_3 h1 hn]; exact if_neg h2⟩
theorem g_5 {x y w h n e1 e2 : Int} (h1 : e1 = 0) (hn : ¬ (n < -256 ∨ 256 < n)) (h2 : e2 = 0) : gErr x y w h n e1 e2 = 0 ∧ gT x y w h n (gErr x y w h n e1 e2) = (x - n, y - n, w + 2 * n, h + 2 * n) := ⟨by rw [g_3 h1 hn, h2], by rw [g_3 h1 hn]; exact if_pos h2⟩

def tErr (x y w h side : Int) : Int := if regErr x y w h ≠ 0 then regErr x y w h else if side < 1 ∨ 256 < side then 3 else 0
def tL (x y w h side : Int) : List Rg := if tErr x y w h side = 0 then rowsL x y w.toNat h.toNat side.toNat (cntI y h.toNat side.toNat) else []
theorem t_1 {x y w h side : Int} (h1 : regErr x y w h ≠ 0) : tErr x y w h side = regErr x y w h ∧ tL x y w h side = [] := by
  have h2 : tErr x y w h side = regErr x y w h := if_pos h1
  exact ⟨h2, by unfold tL; rw [h2]; exact if_neg h1⟩
theorem t_2 {x y w h side : Int} (h1 : regErr x y w h = 0) (hs : side < 1 ∨ 256 < side) : tErr x y w h side = 3 ∧ tL x y w h side = [] := by
  have h2 : tErr x y w h side = 3 := by unfold tErr; rw [if_neg (Decidable.not_not.2 h1), if_pos hs]
  exact ⟨h2, by unfold tL; rw [h2]; rfl⟩
theorem t_3 {x y : Int} {w h s : Nat} (h1 : regErr x y w h = 0) (hs : ¬ ((s : Int) < 1 ∨ 256 < (s : Int))) : tErr x y w h s = 0 ∧ tL x y w h s = rowsL x y w h s (cntI y h s) := by
  have h2 : tErr x y w h s = 0 := by unfold tErr; rw [if_neg (Decidable.not_not.2 h1), if_neg hs]
  exact ⟨h2, by unfold tL; rw [h2]; rfl⟩

theorem div_bd {X : Int} {s : Nat} (h : 1 ≤ s) (hX : -1048576 ≤ X ∧ X ≤ 1048576) : -2000000 ≤ X / (s : Int) ∧ X / (s : Int) ≤ 2000000 := by
  have h1 := Int.natAbs_tdiv_le_natAbs X (s : Int)
  rw [Int.tdiv_eq_ediv] at h1
  split at h1
  · omega
  · rw [Int.sign_eq_one_of_pos (by omega)] at h1
    omega

end Go.Proofs.YtapcgokcfmklbaaDoor
