/-
  Contracts: ranges compared and sought; EditsDiffer. Conditions: as each theorem says.
-/
import Derived.Test.YtapcgokcfmklbaaDoorF4
import Derived.Test.YtapcgokcfmklbaaDoorMrk4
namespace Go.Proofs.YtapcgokcfmklbaaDoor
open Go Go.Proofs Go.RowKit

theorem fo77_0 : fldOff Tryd.prog 77 0 = some (0, 3) := by kernel_rfl
theorem eqt77 : intsT Tryd.prog 77 = 2 := by kernel_rfl
theorem ok38 : callOK Tryd.prog 38 = true := by kernel_rfl
theorem ok39 : callOK Tryd.prog 39 = true := by kernel_rfl
theorem ok40 : callOK Tryd.prog 40 = true := by kernel_rfl
theorem ok41 : callOK Tryd.prog 41 = true := by kernel_rfl
theorem ok42 : callOK Tryd.prog 42 = true := by kernel_rfl
theorem ok43 : callOK Tryd.prog 43 = true := by kernel_rfl
theorem ok103 : callOK Tryd.prog 103 = true := by kernel_rfl

theorem rem_ap {b : B} {K H H' : HL} (h : Rem b H H') : Rem b (K ++ H) (K ++ H') := by
  induction K with
  | nil => exact h
  | cons c K ih => exact .tail ih
theorem RS.sbpw {P W n ops Q rest e H H2} (hs : Sbp H2 H) (h : RS P W n ops Q rest e H2) : RS P W n ops Q rest e H := fun a w hr ho => h a w hr (ho.sbp hs)
theorem sbp_sw (C K T : HL) : Sbp (C ++ (K ++ T)) (K ++ (C ++ T)) := by
  induction C with
  | nil => exact Sbp.refl
  | cons c C ih => exact Sbp.cons (rem_ap Rem.head) ih
theorem mix77 : mixT Tryd.prog 77 [0, 0] = true := by kernel_rfl
/-- ranges in memory -/
def RGS (w : World) (A : Option Addr) (out : List (Int × Int)) : Prop :=
  0 < out.length → ∃ b o, A = some ⟨b, o, none⟩ ∧ ∀ i, i < out.length → ∀ j v, ([iv (out.getD i (0, 0)).1, iv (out.getD i (0, 0)).2] : List Value)[j]? = some v → w.cell? ((⟨b, o + i * 2, none⟩ : Addr).add j) = some v
theorem RGS.own {W w : World} {H : HL} {A : Option Addr} {out : List (Int × Int)} (h : RGS W A out) (ho : Own W w H) : RGS w A out := fun h0 => by
  obtain ⟨b, o, h1, h2⟩ := h h0
  exact ⟨b, o, h1, fun i hi j v hj => ho.old (h2 i hi j v hj)⟩
theorem rgC_at : ∀ {l : List (Int × Int)} {i j : Nat}, i < l.length → j < 2 → (rgC l)[2 * i + j]? = ([iv (l.getD i (0, 0)).1, iv (l.getD i (0, 0)).2] : List Value)[j]?
  | [], i, _, h, _ => absurd h (Nat.not_lt_zero _)
  | p :: l, 0, j, _, hj => by
    match j, hj with
    | 0, _ => rfl
    | 1, _ => rfl
  | p :: l, i + 1, j, h, hj => by
    show (iv p.1 :: iv p.2 :: rgC l)[2 * (i + 1) + j]? = _
    rw [show 2 * (i + 1) + j = 2 * i + j + 1 + 1 by omega, List.getElem?_cons_succ, List.getElem?_cons_succ, rgC_at (by simpa using h) hj]
    rfl
theorem Row.rg {v : Value} {out : List (Int × Int)} {Hr : HL} (h : Row 77 2 v out.length (rgC out) Hr) : ∃ A c, v = .slice A out.length c ∧ out.length ≤ maxLen ∧ ∀ (W w : World) (H2 : HL), Own W w H2 → (∀ b, b ∈ Hr → b ∈ H2) → RGS w A out := by
  by_cases h0 : out.length = 0
  · obtain ⟨A, c, h1, h2, h3⟩ := h.slice
    exact ⟨A, c, h1, Nat.le_trans h2 h3, fun _ _ _ _ _ hp => absurd hp (by omega)⟩
  · obtain ⟨g, cap, junk, h1, h2, h3, h4, _⟩ := Row.some h (by omega)
    refine ⟨_, _, h1, Nat.le_trans h3 h4, fun W w H2 ho hs _ => ⟨g, 0, rfl, fun i hi j v hj => ?_⟩⟩
    have hj2 : j < 2 := (List.getElem?_eq_some_iff.1 hj).1
    have hb := ho.blk ⟨g, 77, rgC out ++ junk⟩ (hs _ (by rw [h2]; exact List.mem_singleton.2 rfl))
    rw [addr_add, hb.2.cell]
    show (rgC out ++ junk)[0 + i * 2 + j]? = _
    rw [List.getElem?_append_left (by rw [rgC_len]; omega), show 0 + i * 2 + j = 2 * i + j by omega, rgC_at hi hj2]
    exact hj
def inR (p : Int × Int) (f : Int) : Bool := decide (p.1 ≤ f ∧ f < p.2)
def anyR (out : List (Int × Int)) (f : Int) : Bool := out.any fun p => inR p f
theorem anyR_T {out : List (Int × Int)} {f : Int} {k : Nat} (hk : k < out.length) (h : inR (out.getD k (0, 0)) f = true) : anyR out f = true := by
  unfold anyR
  rw [List.any_eq_true]
  refine ⟨_, ?_, h⟩
  rw [List.getD_eq_getElem?_getD, List.getElem?_eq_getElem hk]; exact List.getElem_mem _
theorem anyR_F {out : List (Int × Int)} {f : Int} (h : ∀ i, i < out.length → inR (out.getD i (0, 0)) f = false) : anyR out f = false := by
  unfold anyR
  rw [List.any_eq_false]
  intro p hp
  obtain ⟨i, hi, rfl⟩ := List.getElem_of_mem hp
  have := h i hi
  rw [List.getD_eq_getElem?_getD, List.getElem?_eq_getElem hi] at this
  simpa using this
theorem anyR_no {out : List (Int × Int)} {f : Int} (h : anyR out f = false) : ∀ p ∈ out, ¬ (p.1 ≤ f ∧ f < p.2) := fun p hp hh => by
  unfold anyR at h
  rw [List.any_eq_false] at h
  exact h p hp (decide_eq_true hh)
def fdR (p : Int × Int) : List Fd := [.i p.1, .i p.2]
theorem fdR_self (p : Int × Int) : (!allEq (fdR p) (fdR p)) = false := by simp [fdR, allEq, Fd.eq]
theorem cmpE_b {ea eb : Int} (h : cmpE ea eb ≠ 0) (h1 : ea = 0) : eb ≠ 0 := by unfold cmpE at h; rw [if_neg (by simp [h1])] at h; exact h
theorem cmpE_r {ea eb : Int} (h1 : ea = 0) : cmpE ea eb = eb := by unfold cmpE; rw [if_neg (by simp [h1])]
theorem cmpE_l {ea eb : Int} (h1 : ea ≠ 0) : cmpE ea eb = ea := if_pos h1
theorem cmpE_0 {ea eb : Int} (h : cmpE ea eb = 0) : ea = 0 ∧ eb = 0 := by
  unfold cmpE at h
  split at h
  · rename_i h1; exact absurd h h1
  · rename_i h1; exact ⟨Decidable.not_not.1 h1, h⟩

set_option maxRecDepth 100000 in
theorem equalR (A A2 : Option Addr) (c c2 : Nat) (out : List (Int × Int)) (W : World) (hA : RGS W A out) (hA2 : RGS W A2 out) (hm : out.length ≤ maxLen) : Fn_ Tryd.prog 40 #[.slice A out.length c, .slice A2 out.length c2] W (fun v H => v = .bool true ∧ H = []) := by
  unfold maxLen at hm
  refine Fn_.intro Tryd.func40 rfl rfl (by rfl) ?_
  refine CS.seq ?_
  refine CS.region ?_
  refine RS.q rfl (QO.assign) ?_
  refine RS.nil ?_
  refine thenC_n ?_
  refine CS.seq ?_
  refine CS.seq ?_
  refine CS.region ?_
  refine RS.q rfl (QO.move) ?_
  refine RS.q rfl (QO.lenS Tryd.underlying71 (by rfl)) ?_
  refine RS.q rfl (QO.move) ?_
  refine RS.q rfl (QO.lenS Tryd.underlying71 (by rfl)) ?_
  refine RS.q rfl (QO.neq (by rfl) (by rfl)) ?_
  refine RS.nil ?_
  refine thenC_n ?_
  refine CS.condF (by rfl) (bne_self_eq_false _) ?_
  refine CS.skip ?_
  refine thenC_n ?_
  refine CS.seq ?_
  refine CS.seq ?_
  refine CS.region ?_
  refine RS.q rfl (QO.move) ?_
  refine RS.q rfl (QO.lenS Tryd.underlying71 (by rfl)) ?_
  refine RS.q rfl (QO.move) ?_
  refine RS.nil ?_
  refine thenC_n ?_
  refine CS.block ?_
  refine CS.loop (X := Nat) (4 :: 5 :: 13 :: 14 :: 15 :: 16 :: 17 :: 18 :: 19 :: 20 :: 21 :: 22 :: 23 :: 24 :: 25 :: []) (fun k => [(13, iv (k : Int))]) (fun k => []) (fun k => k ≤ out.length) (fun k => out.length - k) 0 (Nat.zero_le _) ?_ ?_ ?_
  · exact (by repeat (first | exact kn_nil | refine kn_cons (by rfl) ?_))
  · exact (by repeat (first | exact List.Sublist.refl _ | exact List.nil_sublist _ | refine List.Sublist.cons_cons _ ?_ | refine List.Sublist.cons _ ?_ | exact Sbp.refl | exact Sbp.nil | refine Sbp.cons (by repeat (first | exact Rem.head | apply Rem.tail)) ?_ | exact Sbp.app | refine Sbp.skip ?_))
  · intro k gj4 hz
    have hk := hz
    refine CS.seq ?_
    refine CS.region ?_
    refine RS.q rfl (QO.lss (by rfl) (by rfl)) ?_
    refine RS.nil ?_
    refine thenC_n ?_
    refine CS.seq ?_
    refine CS.cond (by rfl) (fun hb0 => ?_) (fun hb0 => ?_)
    · have hb0p := of_decide_eq_true hb0
      refine CS.skip ?_
      refine thenC_n ?_
      refine CS.seq ?_
      refine CS.block ?_
      refine CS.seq ?_
      refine CS.region ?_
      refine RS.q rfl (QO.move) ?_
      refine RS.q rfl (QO.assign) ?_
      refine RS.nil ?_
      refine thenC_n ?_
      refine CS.seq ?_
      refine CS.draw 9 rfl (by kernel_rfl) (by kernel_rfl) ?_
      have hx1 := hA (by omega)
      obtain ⟨bA, oA, e1, hc1⟩ := hx1
      subst e1
      have hx2 := hA2 (by omega)
      obtain ⟨bB, oB, e2, hc2⟩ := hx2
      subst e2
      have hd1 := hc1 k (by omega)
      have hd2 := hc2 k (by omega)
      refine RT.take (i := 0) rfl (by kernel_rfl) rfl (QO.move) ?_
      refine RT.take (i := 1) rfl (by kernel_rfl) rfl (QO.move) ?_
      refine RT.take (i := 2) rfl (by kernel_rfl) rfl (QO.idx Tryd.underlying71 ty77 (by rfl) (by rfl) (by omega) (by omega)) ?_
      refine RT.take (i := 3) rfl (by kernel_rfl) rfl (QO.loadOA ty77 (vs := [iv (out.getD k (0, 0)).1, iv (out.getD k (0, 0)).2]) (by rfl) hd1 (by rfl)) ?_
      refine RT.take (i := 4) rfl (by kernel_rfl) rfl (QO.move) ?_
      refine RT.take (i := 5) rfl (by kernel_rfl) rfl (QO.move) ?_
      refine RT.take (i := 6) rfl (by kernel_rfl) rfl (QO.idx Tryd.underlying71 ty77 (by rfl) (by rfl) (by omega) (by omega)) ?_
      refine RT.take (i := 7) rfl (by kernel_rfl) rfl (QO.loadOA ty77 (vs := [iv (out.getD k (0, 0)).1, iv (out.getD k (0, 0)).2]) (by rfl) hd2 (by rfl)) ?_
      refine RT.takev (i := 8) rfl (by kernel_rfl) rfl (QO.sneqM (fdR (out.getD k (0, 0))) (fdR (out.getD k (0, 0))) mix77 (by rfl) (by rfl) rfl rfl) (congrArg Value.bool (fdR_self (out.getD k (0, 0)))) ?_
      refine RT.done (by kernel_rfl) ?_
      refine thenC_n ?_
      refine CS.condF (by rfl) rfl ?_
      refine CS.skip ?_
      refine blockC_n ?_
      refine thenC_n ?_
      refine CS.region ?_
      first | (refine RS.q rfl (QO.add (by rfl) (by rfl) (by omega) (by omega)) ?_) | (refine RS.q rfl (QO.ibin (by rfl) (by rfl) trivial) ?_)
      refine RS.q rfl (QO.move) ?_
      refine RS.nil ?_
      refine loopQ_n (by intro t ht; repeat (first | with_reducible exact rfl | exact frame_puts ht (frame_mix ht) _ rfl | (refine frame_put rfl ht ?_) | (refine frame_puts ht ?_ _ rfl) | exact frame_mix ht | (refine frame_mix2 rfl ht ?_) | exact rfl)) ?_
      exact ⟨k + 1, by omega, by omega, (by repeat (first | exact kn_nil | refine kn_cons (by rfl) ?_)), (by repeat (first | exact List.Sublist.refl _ | exact List.nil_sublist _ | refine List.Sublist.cons_cons _ ?_ | refine List.Sublist.cons _ ?_ | exact Sbp.refl | exact Sbp.nil | refine Sbp.cons (by repeat (first | exact Rem.head | apply Rem.tail)) ?_ | exact Sbp.app | refine Sbp.skip ?_))⟩
    · have hb0p := of_decide_eq_false hb0
      refine CS.exit ?_
      refine thenC_x ?_
      refine loopQ_x ?_
      refine blockC_x ?_
      refine thenC_n ?_
      refine CS.seq ?_
      refine CS.region ?_
      refine RS.q rfl (QO.assign) ?_
      refine RS.nil ?_
      refine thenC_n ?_
      refine CS.ret ?_
      refine retQ.mk (H' := []) (.inr rfl) (RVs.tmp (by rfl) RVs.nil) (List.nil_sublist _) ?_
      exact ⟨rfl, rfl⟩

set_option maxRecDepth 100000 in
theorem inR1 (p : Int × Int) (f : Int) (g : Nat) (W : World) (hc : W.cell? ⟨g, 0, none⟩ = some (iv f)) : Fn_ Tryd.prog 43 #[.agg #[iv p.1, iv p.2], .pointer (some ⟨g, 0, none⟩)] W (fun v H => v = .bool (inR p f) ∧ H = []) := by
  refine Fn_.intro Tryd.func43 rfl rfl (by rfl) ?_
  refine CS.seq ?_
  refine CS.region ?_
  refine RS.box rfl (by rfl) (by rfl) ?_
  intro g2
  refine RS.q rfl (QO.assign) ?_
  refine RS.nil ?_
  refine thenC_n ?_
  refine CS.seq ?_
  refine CS.region ?_
  refine RS.q rfl (QO.loadO ty3 (by rfl) hc) ?_
  refine RS.q rfl (QO.fieldAddr fo77_0 (by rfl)) ?_
  first | (refine RS.q rfl (QO.load ty3 (by rfl) (by repeat (first | exact List.Mem.head _ | refine List.Mem.tail _ ?_)) (by rfl)) ?_) | (refine RS.q rfl (QO.loadO ty3 (by rfl) (by assumption)) ?_) | (refine RS.q rfl (QO.load ty3 (by rfl) (by repeat (first | exact List.Mem.head _ | refine List.Mem.tail _ ?_)) (by assumption)) ?_)
  refine RS.q rfl (QO.geq (by rfl) (by rfl)) ?_
  refine RS.q rfl (QO.move) ?_
  refine RS.split (dj := 8) (by rfl) (fun hb0 => ?_) (fun hb0 => ?_)
  · have hb0p := of_decide_eq_true hb0
    refine RS.on (dj := 8) rfl (congrArg Value.bool hb0) ?_
    refine RS.q rfl (QO.loadO ty3 (by rfl) hc) ?_
    refine RS.on (dj := 8) rfl (congrArg Value.bool hb0) ?_
    refine RS.q rfl (QO.fieldAddr fo77_1 (by rfl)) ?_
    refine RS.on (dj := 8) rfl (congrArg Value.bool hb0) ?_
    first | (refine RS.q rfl (QO.load ty3 (by rfl) (by repeat (first | exact List.Mem.head _ | refine List.Mem.tail _ ?_)) (by rfl)) ?_) | (refine RS.q rfl (QO.loadO ty3 (by rfl) (by assumption)) ?_) | (refine RS.q rfl (QO.load ty3 (by rfl) (by repeat (first | exact List.Mem.head _ | refine List.Mem.tail _ ?_)) (by assumption)) ?_)
    refine RS.on (dj := 8) rfl (congrArg Value.bool hb0) ?_
    refine RS.q rfl (QO.lss (by rfl) (by rfl)) ?_
    refine RS.q rfl (QO.pickT (by rfl) hb0 (by rfl)) ?_
    refine RS.q rfl (QO.assign) ?_
    refine RS.nil ?_
    refine thenC_n ?_
    refine CS.ret ?_
    refine retQ.mk (H' := []) (.inr rfl) (RVs.tmp (by rfl) RVs.nil) (List.nil_sublist _) ?_
    refine ⟨congrArg Value.bool ?_, rfl⟩
    unfold inR
    first | exact decide_eq_decide.2 (by omega) | exact (decide_eq_false (by omega)).symm
  · have hb0p := of_decide_eq_false hb0
    refine RS.off (dj := 8) rfl (.inl (congrArg Value.bool hb0)) (fun _ => rfl) rfl ?_
    refine RS.off (dj := 8) rfl (.inl (congrArg Value.bool hb0)) (fun _ => rfl) rfl ?_
    refine RS.off (dj := 8) rfl (.inl (congrArg Value.bool hb0)) (fun _ => rfl) rfl ?_
    refine RS.off (dj := 8) rfl (.inl (congrArg Value.bool hb0)) (fun _ => rfl) rfl ?_
    refine RS.q rfl (QO.pickF (by rfl) hb0 (by rfl)) ?_
    refine RS.q rfl (QO.assign) ?_
    refine RS.nil ?_
    refine thenC_n ?_
    refine CS.ret ?_
    refine retQ.mk (H' := []) (.inr rfl) (RVs.tmp (by rfl) RVs.nil) (List.nil_sublist _) ?_
    refine ⟨congrArg Value.bool ?_, rfl⟩
    unfold inR
    first | exact decide_eq_decide.2 (by omega) | exact (decide_eq_false (by omega)).symm

set_option maxRecDepth 100000 in
theorem indexR (A : Option Addr) (c : Nat) (out : List (Int × Int)) (f : Int) (g : Nat) (W : World) (hA : RGS W A out) (hm : out.length ≤ maxLen) (hc : W.cell? ⟨g, 0, none⟩ = some (iv f)) : Fn_ Tryd.prog 103 #[.slice A out.length c, .func (.func 43) #[] #[.pointer (some ⟨g, 0, none⟩)]] W (fun v H => ∃ q : Int, v = iv q ∧ decide (0 ≤ q) = anyR out f ∧ H = []) := by
  unfold maxLen at hm
  refine Fn_.intro Tryd.func103 rfl rfl (by rfl) ?_
  refine CS.seq ?_
  refine CS.region ?_
  refine RS.q rfl (QO.assign) ?_
  refine RS.nil ?_
  refine thenC_n ?_
  refine CS.seq ?_
  refine CS.seq ?_
  refine CS.region ?_
  refine RS.q rfl (QO.move) ?_
  refine RS.q rfl (QO.lenS Tryd.underlying71 (by rfl)) ?_
  refine RS.q rfl (QO.move) ?_
  refine RS.nil ?_
  refine thenC_n ?_
  refine CS.block ?_
  refine CS.loop (X := Nat) (4 :: 5 :: 8 :: 9 :: 10 :: 11 :: 12 :: 13 :: 14 :: 15 :: 16 :: 17 :: 18 :: []) (fun k => [(8, iv (k : Int))]) (fun k => []) (fun k => k ≤ out.length ∧ ∀ i, i < k → inR (out.getD i (0, 0)) f = false) (fun k => out.length - k) 0 ⟨Nat.zero_le _, fun i h => absurd h (Nat.not_lt_zero _)⟩ ?_ ?_ ?_
  · exact (by repeat (first | exact kn_nil | refine kn_cons (by rfl) ?_))
  · exact (by repeat (first | exact List.Sublist.refl _ | exact List.nil_sublist _ | refine List.Sublist.cons_cons _ ?_ | refine List.Sublist.cons _ ?_ | exact Sbp.refl | exact Sbp.nil | refine Sbp.cons (by repeat (first | exact Rem.head | apply Rem.tail)) ?_ | exact Sbp.app | refine Sbp.skip ?_))
  · intro k gj2 hz
    obtain ⟨hk, hno⟩ := hz
    refine CS.seq ?_
    refine CS.region ?_
    refine RS.q rfl (QO.lss (by rfl) (by rfl)) ?_
    refine RS.nil ?_
    refine thenC_n ?_
    refine CS.seq ?_
    refine CS.cond (by rfl) (fun hb0 => ?_) (fun hb0 => ?_)
    · have hb0p := of_decide_eq_true hb0
      refine CS.skip ?_
      refine thenC_n ?_
      refine CS.seq ?_
      refine CS.block ?_
      refine CS.seq ?_
      refine CS.region ?_
      refine RS.q rfl (QO.move) ?_
      refine RS.q rfl (QO.assign) ?_
      refine RS.nil ?_
      refine thenC_n ?_
      refine CS.seq ?_
      refine CS.region ?_
      refine RS.q rfl (QO.move) ?_
      have hx1 := hA (by omega)
      obtain ⟨bA, oA, e1, hc1⟩ := hx1
      subst e1
      have hd1 := hc1 k (by omega)
      refine RS.q rfl (QO.move) ?_
      refine RS.q rfl (QO.move) ?_
      refine RS.q rfl (QO.idx Tryd.underlying71 ty77 (by rfl) (by rfl) (by omega) (by omega)) ?_
      refine RS.q rfl (QO.loadOA ty77 (vs := [iv (out.getD k (0, 0)).1, iv (out.getD k (0, 0)).2]) (by rfl) hd1 (by rfl)) ?_
      refine RS.call rfl (by rfl) ok43 (by rfl) (fun w ho => inR1 (out.getD k (0, 0)) f g _ (ho.old hc)) ?_
      rintro _ _ ⟨rfl, rfl⟩
      refine RS.nil ?_
      refine thenC_n ?_
      refine CS.cond (by rfl) (fun hb1 => ?_) (fun hb1 => ?_)
      · refine CS.seq ?_
        refine CS.region ?_
        refine RS.q rfl (QO.move) ?_
        refine RS.q rfl (QO.assign) ?_
        refine RS.nil ?_
        refine thenC_n ?_
        refine CS.ret ?_
        refine blockC_r ?_
        refine thenC_r ?_
        refine loopQ_r ?_
        refine blockC_r ?_
        refine thenC_r ?_
        refine retQ.mk (H' := []) (.inr rfl) (RVs.tmp (by rfl) RVs.nil) (List.nil_sublist _) ?_
        first | exact ⟨_, rfl, (decide_eq_true (by omega)).trans (anyR_T (k := k) (by omega) (by assumption)).symm, rfl⟩ | exact ⟨_, rfl, (decide_eq_false (by omega)).trans (anyR_F (fun i hi => hno i (by omega))).symm, rfl⟩
      · refine CS.skip ?_
        refine blockC_n ?_
        refine thenC_n ?_
        refine CS.region ?_
        first | (refine RS.q rfl (QO.add (by rfl) (by rfl) (by omega) (by omega)) ?_) | (refine RS.q rfl (QO.ibin (by rfl) (by rfl) trivial) ?_)
        refine RS.q rfl (QO.move) ?_
        refine RS.nil ?_
        refine loopQ_n (by intro t ht; repeat (first | with_reducible exact rfl | exact frame_puts ht (frame_mix ht) _ rfl | (refine frame_put rfl ht ?_) | (refine frame_puts ht ?_ _ rfl) | exact frame_mix ht | (refine frame_mix2 rfl ht ?_) | exact rfl)) ?_
        exact ⟨k + 1, ⟨by omega, fun i hi => by
            by_cases e : i = k
            · subst e; assumption
            · exact hno i (by omega)⟩, by omega, (by repeat (first | exact kn_nil | refine kn_cons (by rfl) ?_)), (by repeat (first | exact List.Sublist.refl _ | exact List.nil_sublist _ | refine List.Sublist.cons_cons _ ?_ | refine List.Sublist.cons _ ?_ | exact Sbp.refl | exact Sbp.nil | refine Sbp.cons (by repeat (first | exact Rem.head | apply Rem.tail)) ?_ | exact Sbp.app | refine Sbp.skip ?_))⟩
    · have hb0p := of_decide_eq_false hb0
      refine CS.exit ?_
      refine thenC_x ?_
      refine loopQ_x ?_
      refine blockC_x ?_
      refine thenC_n ?_
      refine CS.seq ?_
      refine CS.region ?_
      refine RS.q rfl (QO.assign) ?_
      refine RS.nil ?_
      refine thenC_n ?_
      refine CS.ret ?_
      refine retQ.mk (H' := []) (.inr rfl) (RVs.tmp (by rfl) RVs.nil) (List.nil_sublist _) ?_
      first | exact ⟨_, rfl, (decide_eq_true (by omega)).trans (anyR_T (k := k) (by omega) (by assumption)).symm, rfl⟩ | exact ⟨_, rfl, (decide_eq_false (by omega)).trans (anyR_F (fun i hi => hno i (by omega))).symm, rfl⟩

set_option maxRecDepth 100000 in
theorem containsR (A : Option Addr) (c : Nat) (out : List (Int × Int)) (f : Int) (g : Nat) (W : World) (hA : RGS W A out) (hm : out.length ≤ maxLen) (hc : W.cell? ⟨g, 0, none⟩ = some (iv f)) : Fn_ Tryd.prog 42 #[.slice A out.length c, .func (.func 43) #[] #[.pointer (some ⟨g, 0, none⟩)]] W (fun v H => v = .bool (anyR out f) ∧ H = []) := by
  refine Fn_.intro Tryd.func42 rfl rfl (by rfl) ?_
  refine CS.seq ?_
  refine CS.region ?_
  refine RS.q rfl (QO.assign) ?_
  refine RS.nil ?_
  refine thenC_n ?_
  refine CS.seq ?_
  refine CS.region ?_
  refine RS.q rfl (QO.move) ?_
  refine RS.q rfl (QO.move) ?_
  refine RS.call rfl (by rfl) ok103 (by rfl) (fun w ho => indexR A c out f g _ (hA.own ho) hm (ho.old hc)) ?_
  rintro _ _ ⟨q, rfl, hq, rfl⟩
  refine RS.q rfl (QO.geq (by rfl) (by rfl)) ?_
  refine RS.q rfl (QO.assign) ?_
  refine RS.nil ?_
  refine thenC_n ?_
  refine CS.ret ?_
  refine retQ.mk (H' := []) (.inr rfl) (RVs.tmp (by rfl) RVs.nil) (List.nil_sublist _) ?_
  exact ⟨congrArg Value.bool hq, rfl⟩

set_option maxHeartbeats 8000000 in
set_option maxRecDepth 100000 in
theorem editsDiffer (t t2 : List UInt8) (r r2 : Int) (A A2 : Option Addr) (c c2 : Nat) (a b : List Ev) (f : Int) (W : World) (ht : t.length ≤ maxLen) (ht2 : t2.length ≤ maxLen) (hA : ES W A a) (hA2 : ES W A2 b) (hr : ∀ e ∈ a, e.reel.length ≤ maxLen) (hr2 : ∀ e ∈ b, e.reel.length ≤ maxLen) (hm : a.length ≤ maxLen) (hm2 : b.length ≤ maxLen) : Fn_ Tryd.prog 7 #[.agg #[sv t, iv r, .slice A a.length c], .agg #[sv t2, iv r2, .slice A2 b.length c2], iv f] W (fun v H => v = .bool true ∧ H = []) := by
  refine Fn_.intro Tryd.func7 rfl rfl (by rfl) ?_
  refine CS.seq ?_
  refine CS.region ?_
  refine RS.box rfl (by rfl) (by rfl) ?_
  intro g3
  refine RS.box rfl (by rfl) (by rfl) ?_
  intro g4
  refine RS.box rfl (by rfl) (by rfl) ?_
  intro g5
  refine RS.q rfl (QO.assign) ?_
  refine RS.nil ?_
  refine thenC_n ?_
  refine CS.seq ?_
  refine CS.seq ?_
  refine CS.region ?_
  refine RS.call rfl (by rfl) ok11 (by rfl) (fun w ho => landed _) ?_
  rintro _ _ ⟨rfl, rfl⟩
  refine RS.q rfl (QO.not (by rfl)) ?_
  refine RS.nil ?_
  refine thenC_n ?_
  refine CS.condF (by rfl) rfl ?_
  refine CS.skip ?_
  refine thenC_n ?_
  refine CS.seq ?_
  by_cases hsp3 : cmpE (edE t r a) (edE t2 r2 b) = 0
  · refine CS.region ?_
    first | (refine RS.q rfl (QO.loadB ty52 (by rfl) (by repeat (first | exact List.Mem.head _ | refine List.Mem.tail _ ?_)) (by rfl)) ?_) | (refine RS.q rfl (QO.loadA ty52 (by rfl) (by repeat (first | exact List.Mem.head _ | refine List.Mem.tail _ ?_)) (by rfl) (by rfl)) ?_) | (refine RS.q rfl (QO.loadOA ty52 (by rfl) (by assumption) (by rfl)) ?_)
    first | (refine RS.q rfl (QO.loadB ty52 (by rfl) (by repeat (first | exact List.Mem.head _ | refine List.Mem.tail _ ?_)) (by rfl)) ?_) | (refine RS.q rfl (QO.loadA ty52 (by rfl) (by repeat (first | exact List.Mem.head _ | refine List.Mem.tail _ ?_)) (by rfl) (by rfl)) ?_) | (refine RS.q rfl (QO.loadOA ty52 (by rfl) (by assumption) (by rfl)) ?_)
    refine RS.call rfl (by rfl) ok38 (by rfl) (fun w ho => compare_ t t2 r r2 A A2 c c2 a b _ ht ht2 (hA.own ho) (hA2.own ho) hr hr2 hm hm2) ?_
    intro v17 H17 h17
    rcases h17 with ⟨h, _⟩ | ⟨_, vo, rfl, hrow⟩
    · exact absurd hsp3 h
    have hE2 := cmpE_0 hsp3
    obtain ⟨hEa, hEb⟩ := hE2
    have hoka : ∀ i, i < a.length → okE (a.getD i default) := fun i hi => okE_of hEa hi
    have hokb : ∀ i, i < b.length → okE (b.getD i default) := fun i hi => okE_of hEb hi
    rw [SD_same hoka hokb] at hrow
    have hx := hrow.rg
    obtain ⟨Ar, cr, hvr, hmr, hrg⟩ := hx
    subst hvr
    refine RS.sbpw (H2 := ⟨g5, 3, [iv f]⟩ :: ⟨g4, 52, [sv t2, iv r2, .slice A2 b.length c2]⟩ :: ⟨g3, 52, [sv t, iv r, .slice A a.length c]⟩ :: (H17 ++ [])) (sbp_sw [⟨g5, 3, [iv f]⟩, ⟨g4, 52, [sv t2, iv r2, .slice A2 b.length c2]⟩, ⟨g3, 52, [sv t, iv r, .slice A a.length c]⟩] _ _) ?_
    refine RS.q rfl (QO.move) ?_
    refine RS.q rfl (QO.extract (by rfl) (by rfl)) ?_
    refine RS.q rfl (QO.extract (by rfl) (by rfl)) ?_
    refine RS.q rfl (QO.assign) ?_
    refine RS.q rfl (QO.assign) ?_
    refine RS.nil ?_
    refine thenC_n ?_
    refine CS.seq ?_
    refine CS.region ?_
    first | (refine RS.q rfl (QO.loadB ty52 (by rfl) (by repeat (first | exact List.Mem.head _ | refine List.Mem.tail _ ?_)) (by rfl)) ?_) | (refine RS.q rfl (QO.loadA ty52 (by rfl) (by repeat (first | exact List.Mem.head _ | refine List.Mem.tail _ ?_)) (by rfl) (by rfl)) ?_) | (refine RS.q rfl (QO.loadOA ty52 (by rfl) (by assumption) (by rfl)) ?_)
    refine RS.call rfl (by rfl) ok39 (by rfl) (fun w ho => editsError t r A a.length c a _ ht rfl (hA.own ho) hr hm) ?_
    rintro _ _ ⟨rfl, rfl⟩
    refine RS.q rfl (QO.assign) ?_
    refine RS.nil ?_
    refine thenC_n ?_
    refine CS.seq ?_
    refine CS.seq ?_
    refine CS.region ?_
    refine RS.q rfl (QO.move) ?_
    refine RS.q rfl (QO.eql (by rfl) (by rfl)) ?_
    refine RS.nil ?_
    refine thenC_n ?_
    refine CS.condT (by rfl) (by rw [hEa]; rfl) ?_
    refine CS.region ?_
    first | (refine RS.q rfl (QO.loadB ty52 (by rfl) (by repeat (first | exact List.Mem.head _ | refine List.Mem.tail _ ?_)) (by rfl)) ?_) | (refine RS.q rfl (QO.loadA ty52 (by rfl) (by repeat (first | exact List.Mem.head _ | refine List.Mem.tail _ ?_)) (by rfl) (by rfl)) ?_) | (refine RS.q rfl (QO.loadOA ty52 (by rfl) (by assumption) (by rfl)) ?_)
    refine RS.call rfl (by rfl) ok39 (by rfl) (fun w ho => editsError t2 r2 A2 b.length c2 b _ ht2 rfl (hA2.own ho) hr2 hm2) ?_
    rintro _ _ ⟨rfl, rfl⟩
    refine RS.q rfl (QO.assign) ?_
    refine RS.nil ?_
    refine thenC_n ?_
    refine CS.seq ?_
    refine CS.seq ?_
    refine CS.region ?_
    refine RS.q rfl (QO.move) ?_
    refine RS.q rfl (QO.neq (by rfl) (by rfl)) ?_
    refine RS.nil ?_
    refine thenC_n ?_
    refine CS.condF (by rfl) (by rw [hEb]; rfl) ?_
    refine CS.skip ?_
    refine thenC_n ?_
    refine CS.seq ?_
    refine CS.seq ?_
    refine CS.region ?_
    refine RS.q rfl (QO.move) ?_
    refine RS.q rfl (QO.neq (by rfl) (by rfl)) ?_
    refine RS.q rfl (QO.move) ?_
    refine RS.on (dj := 38) rfl (congrArg Value.bool rfl) ?_
    refine RS.q rfl (QO.move) ?_
    refine RS.on (dj := 38) rfl (congrArg Value.bool rfl) ?_
    first | (refine RS.q rfl (QO.loadB ty52 (by rfl) (by repeat (first | exact List.Mem.head _ | refine List.Mem.tail _ ?_)) (by rfl)) ?_) | (refine RS.q rfl (QO.loadA ty52 (by rfl) (by repeat (first | exact List.Mem.head _ | refine List.Mem.tail _ ?_)) (by rfl) (by rfl)) ?_) | (refine RS.q rfl (QO.loadOA ty52 (by rfl) (by assumption) (by rfl)) ?_)
    refine RS.on (dj := 38) rfl (congrArg Value.bool rfl) ?_
    first | (refine RS.q rfl (QO.loadB ty52 (by rfl) (by repeat (first | exact List.Mem.head _ | refine List.Mem.tail _ ?_)) (by rfl)) ?_) | (refine RS.q rfl (QO.loadA ty52 (by rfl) (by repeat (first | exact List.Mem.head _ | refine List.Mem.tail _ ?_)) (by rfl) (by rfl)) ?_) | (refine RS.q rfl (QO.loadOA ty52 (by rfl) (by assumption) (by rfl)) ?_)
    refine RS.on (dj := 38) rfl (congrArg Value.bool rfl) ?_
    refine RS.call rfl (by rfl) ok41 (by rfl) (fun w ho => rcompare t t2 r r2 A A2 c c2 a b _ ht ht2 (hA.own ho) (hA2.own ho) hr hr2 hm hm2 hEa hEb (S_nn hoka hokb) (le_last (SD_lt _) (LS_mem hoka hokb))) ?_
    intro v42 H42 hrow42
    have hrow42 : Row 77 2 v42 (rngs (alk a b) (SD (RM a b 2)) ((SD (RM a b 2)).length - 1)).length (rgC (rngs (alk a b) (SD (RM a b 2)) ((SD (RM a b 2)).length - 1))) H42 := hrow42
    have hx := hrow42.rg
    obtain ⟨Aq, cq, hvq, _, hrg2⟩ := hx
    subst hvq
    refine RS.sbpw (H2 := ⟨g5, 3, [iv f]⟩ :: ⟨g4, 52, [sv t2, iv r2, .slice A2 b.length c2]⟩ :: ⟨g3, 52, [sv t, iv r, .slice A a.length c]⟩ :: (H42 ++ (H17 ++ []))) (sbp_sw [⟨g5, 3, [iv f]⟩, ⟨g4, 52, [sv t2, iv r2, .slice A2 b.length c2]⟩, ⟨g3, 52, [sv t, iv r, .slice A a.length c]⟩] _ _) ?_
    refine RS.on (dj := 38) rfl (congrArg Value.bool rfl) ?_
    refine RS.call rfl (by rfl) ok40 (by rfl) (fun w ho => equalR Ar Aq cr cq (rngs (alk a b) (SD (RM a b 2)) ((SD (RM a b 2)).length - 1)) _ (hrg _ _ _ ho (fun b hb => by simp only [List.mem_cons, List.mem_append, hb, or_true, true_or])) (hrg2 _ _ _ ho (fun b hb => by simp only [List.mem_cons, List.mem_append, hb, or_true, true_or])) hmr) ?_
    rintro _ _ ⟨rfl, rfl⟩
    refine RS.on (dj := 38) rfl (congrArg Value.bool rfl) ?_
    refine RS.q rfl (QO.not (by rfl)) ?_
    refine RS.q rfl (QO.pickF (by rfl) rfl (by rfl)) ?_
    refine RS.nil ?_
    refine thenC_n ?_
    refine CS.condF (by rfl) rfl ?_
    refine CS.skip ?_
    refine thenC_n ?_
    refine CS.seq ?_
    refine CS.seq ?_
    refine CS.region ?_
    first | (refine RS.q rfl (QO.load ty3 (by rfl) (by repeat (first | exact List.Mem.head _ | refine List.Mem.tail _ ?_)) (by rfl)) ?_) | (refine RS.q rfl (QO.loadO ty3 (by rfl) (by assumption)) ?_) | (refine RS.q rfl (QO.load ty3 (by rfl) (by repeat (first | exact List.Mem.head _ | refine List.Mem.tail _ ?_)) (by assumption)) ?_)
    refine RS.q rfl (QO.lss (by rfl) (by rfl)) ?_
    refine RS.q rfl (QO.move) ?_
    refine RS.split (dj := 48) (by rfl) (fun hb0 => ?_) (fun hb0 => ?_)
    · have hb0p := of_decide_eq_true hb0
      refine RS.off (dj := 48) rfl (.inl (congrArg Value.bool hb0)) (fun _ => rfl) rfl ?_
      refine RS.off (dj := 48) rfl (.inl (congrArg Value.bool hb0)) (fun _ => rfl) rfl ?_
      refine RS.off (dj := 48) rfl (.inl (congrArg Value.bool hb0)) (fun _ => rfl) rfl ?_
      refine RS.q rfl (QO.pickT (by rfl) hb0 (by rfl)) ?_
      refine RS.nil ?_
      refine thenC_n ?_
      refine CS.condT (by rfl) rfl ?_
      refine CS.seq ?_
      refine CS.region ?_
      refine RS.q rfl (QO.assign) ?_
      refine RS.nil ?_
      refine thenC_n ?_
      refine CS.ret ?_
      refine thenC_r ?_
      refine retQ.mk (H' := []) (.inr rfl) (RVs.tmp (by rfl) RVs.nil) (List.nil_sublist _) ?_
      exact ⟨rfl, rfl⟩
    · have hb0p := of_decide_eq_false hb0
      refine RS.on (dj := 48) rfl (congrArg Value.bool hb0) ?_
      refine RS.q rfl (QO.move) ?_
      refine RS.on (dj := 48) rfl (congrArg Value.bool hb0) ?_
      refine RS.q rfl (QO.makeFunc) ?_
      refine RS.on (dj := 48) rfl (congrArg Value.bool hb0) ?_
      refine RS.call rfl (by rfl) ok42 (by rfl) (fun w ho => containsR Ar cr (rngs (alk a b) (SD (RM a b 2)) ((SD (RM a b 2)).length - 1)) f g5 _ (hrg _ _ _ ho (fun b hb => by simp only [List.mem_cons, List.mem_append, hb, or_true, true_or])) hmr (ho.cellG (g := g5) (List.Mem.head _) rfl)) ?_
      rintro _ _ ⟨rfl, rfl⟩
      refine RS.q rfl (QO.pickF (by rfl) hb0 (by rfl)) ?_
      refine RS.nil ?_
      refine thenC_n ?_
      refine CS.cond (by rfl) (fun hb1 => ?_) (fun hb1 => ?_)
      · refine CS.seq ?_
        refine CS.region ?_
        refine RS.q rfl (QO.assign) ?_
        refine RS.nil ?_
        refine thenC_n ?_
        refine CS.ret ?_
        refine thenC_r ?_
        refine retQ.mk (H' := []) (.inr rfl) (RVs.tmp (by rfl) RVs.nil) (List.nil_sublist _) ?_
        exact ⟨rfl, rfl⟩
      · refine CS.skip ?_
        refine thenC_n ?_
        refine CS.seq ?_
        refine CS.region ?_
        first | (refine RS.q rfl (QO.loadB ty52 (by rfl) (by repeat (first | exact List.Mem.head _ | refine List.Mem.tail _ ?_)) (by rfl)) ?_) | (refine RS.q rfl (QO.loadA ty52 (by rfl) (by repeat (first | exact List.Mem.head _ | refine List.Mem.tail _ ?_)) (by rfl) (by rfl)) ?_) | (refine RS.q rfl (QO.loadOA ty52 (by rfl) (by assumption) (by rfl)) ?_)
        first | (refine RS.q rfl (QO.load ty3 (by rfl) (by repeat (first | exact List.Mem.head _ | refine List.Mem.tail _ ?_)) (by rfl)) ?_) | (refine RS.q rfl (QO.loadO ty3 (by rfl) (by assumption)) ?_) | (refine RS.q rfl (QO.load ty3 (by rfl) (by repeat (first | exact List.Mem.head _ | refine List.Mem.tail _ ?_)) (by assumption)) ?_)
        refine RS.call rfl (by rfl) ok44 (by rfl) (fun w ho => rat1 t r A a.length c a f _ rfl (hA.own ho) hEa hm (by omega)) ?_
        intro v56 H56 h56
        have hx56 : ∃ i56 s56 e56, atR a f = (i56, s56, e56) := ⟨_, _, _, rfl⟩
        obtain ⟨i56, s56, e56, hR56⟩ := hx56
        rw [hR56] at h56
        have hn56 := share_pos hEa f
        rw [hR56] at hn56
        have h56 : v56 = .tuple #[.agg #[iv (i56 : Nat), sv s56.reel, iv s56.frame, sv s56.back, iv s56.bf, flt s56.share], iv e56] ∧ H56 = [] := h56
        obtain ⟨rfl, rfl⟩ := h56
        refine RS.q rfl (QO.move) ?_
        refine RS.q rfl (QO.extract (by rfl) (by rfl)) ?_
        refine RS.q rfl (QO.extract (by rfl) (by rfl)) ?_
        refine RS.alloc rfl ty82 ?_
        intro g10
        first | refine RS.storeB ty82 (by rfl) (by rfl) (by rfl) (by rfl) (by rfl) (by repeat (first | exact Upd.head | apply Upd.tail)) (by rfl) ?_ | refine RS.storeP ty82 (by rfl) (by rfl) (by rfl) (by rfl) (by rfl) (by repeat (first | exact Upd.head | apply Upd.tail)) (by rfl) ?_
        refine RS.q rfl (QO.assign) ?_
        refine RS.nil ?_
        refine thenC_n ?_
        refine CS.seq ?_
        refine CS.region ?_
        first | (refine RS.q rfl (QO.loadB ty52 (by rfl) (by repeat (first | exact List.Mem.head _ | refine List.Mem.tail _ ?_)) (by rfl)) ?_) | (refine RS.q rfl (QO.loadA ty52 (by rfl) (by repeat (first | exact List.Mem.head _ | refine List.Mem.tail _ ?_)) (by rfl) (by rfl)) ?_) | (refine RS.q rfl (QO.loadOA ty52 (by rfl) (by assumption) (by rfl)) ?_)
        first | (refine RS.q rfl (QO.load ty3 (by rfl) (by repeat (first | exact List.Mem.head _ | refine List.Mem.tail _ ?_)) (by rfl)) ?_) | (refine RS.q rfl (QO.loadO ty3 (by rfl) (by assumption)) ?_) | (refine RS.q rfl (QO.load ty3 (by rfl) (by repeat (first | exact List.Mem.head _ | refine List.Mem.tail _ ?_)) (by assumption)) ?_)
        refine RS.call rfl (by rfl) ok44 (by rfl) (fun w ho => rat1 t2 r2 A2 b.length c2 b f _ rfl (hA2.own ho) hEb hm2 (by omega)) ?_
        intro v62 H62 h62
        have hx62 : ∃ i62 s62 e62, atR b f = (i62, s62, e62) := ⟨_, _, _, rfl⟩
        obtain ⟨i62, s62, e62, hR62⟩ := hx62
        rw [hR62] at h62
        have hn62 := share_pos hEb f
        rw [hR62] at hn62
        have h62 : v62 = .tuple #[.agg #[iv (i62 : Nat), sv s62.reel, iv s62.frame, sv s62.back, iv s62.bf, flt s62.share], iv e62] ∧ H62 = [] := h62
        obtain ⟨rfl, rfl⟩ := h62
        refine RS.q rfl (QO.move) ?_
        refine RS.q rfl (QO.extract (by rfl) (by rfl)) ?_
        refine RS.q rfl (QO.extract (by rfl) (by rfl)) ?_
        refine RS.alloc rfl ty82 ?_
        intro g11
        first | refine RS.storeB ty82 (by rfl) (by rfl) (by rfl) (by rfl) (by rfl) (by repeat (first | exact Upd.head | apply Upd.tail)) (by rfl) ?_ | refine RS.storeP ty82 (by rfl) (by rfl) (by rfl) (by rfl) (by rfl) (by repeat (first | exact Upd.head | apply Upd.tail)) (by rfl) ?_
        refine RS.q rfl (QO.assign) ?_
        refine RS.nil ?_
        refine thenC_n ?_
        refine CS.seq ?_
        refine CS.region ?_
        have hsame := same_at (f := f) hoka hokb (by omega) (anyR_no (by assumption))
        rw [hR56, hR62] at hsame
        have hse : s56 = s62 ∧ e56 = e62 := ⟨congrArg Prod.fst hsame, congrArg Prod.snd hsame⟩
        refine RS.q rfl (QO.fieldAddr fo82_0 (by rfl)) ?_
        refine RS.store1 ty3 rfl (by rfl) (by rfl) (by rfl) (by repeat (first | exact Upd.head | apply Upd.tail)) (by first | (simp; done) | (simp; omega) | omega) ?_
        refine RS.q rfl (QO.fieldAddr fo82_0 (by rfl)) ?_
        refine RS.store1 ty3 rfl (by rfl) (by rfl) (by rfl) (by repeat (first | exact Upd.head | apply Upd.tail)) (by first | (simp; done) | (simp; omega) | omega) ?_
        refine RS.nil ?_
        refine thenC_n ?_
        refine CS.seq ?_
        refine CS.region ?_
        refine RS.q rfl (QO.move) ?_
        refine RS.q rfl (QO.move) ?_
        refine RS.qv rfl (QO.eql (by rfl) (by rfl)) (congrArg Value.bool (show (e56 == e62) = true from beq_iff_eq.2 hse.2)) ?_
        refine RS.q rfl (QO.move) ?_
        refine RS.on (dj := 70) rfl (congrArg Value.bool rfl) ?_
        first | (refine RS.q rfl (QO.loadB ty82 (by rfl) (by repeat (first | exact List.Mem.head _ | refine List.Mem.tail _ ?_)) (by rfl)) ?_) | (refine RS.q rfl (QO.loadA ty82 (by rfl) (by repeat (first | exact List.Mem.head _ | refine List.Mem.tail _ ?_)) (by rfl) (by rfl)) ?_) | (refine RS.q rfl (QO.loadOA ty82 (by rfl) (by assumption) (by rfl)) ?_)
        refine RS.on (dj := 70) rfl (congrArg Value.bool rfl) ?_
        first | (refine RS.q rfl (QO.loadB ty82 (by rfl) (by repeat (first | exact List.Mem.head _ | refine List.Mem.tail _ ?_)) (by rfl)) ?_) | (refine RS.q rfl (QO.loadA ty82 (by rfl) (by repeat (first | exact List.Mem.head _ | refine List.Mem.tail _ ?_)) (by rfl) (by rfl)) ?_) | (refine RS.q rfl (QO.loadOA ty82 (by rfl) (by assumption) (by rfl)) ?_)
        refine RS.on (dj := 70) rfl (congrArg Value.bool rfl) ?_
        refine RS.qv rfl (QO.seqlM (fdS s56) (fdS s62) mix82 (by rfl) (by rfl) rfl rfl) (congrArg Value.bool (show allEq (fdS s56) (fdS s62) = true by rw [fdS_eq2 hn56 hn62]; exact decide_eq_true hse.1)) ?_
        refine RS.q rfl (QO.pickT (by rfl) rfl (by rfl)) ?_
        refine RS.q rfl (QO.assign) ?_
        refine RS.nil ?_
        refine thenC_n ?_
        refine CS.ret ?_
        refine retQ.mk (H' := []) (.inr rfl) (RVs.tmp (by rfl) RVs.nil) (List.nil_sublist _) ?_
        exact ⟨rfl, rfl⟩
  · refine CS.region ?_
    first | (refine RS.q rfl (QO.loadB ty52 (by rfl) (by repeat (first | exact List.Mem.head _ | refine List.Mem.tail _ ?_)) (by rfl)) ?_) | (refine RS.q rfl (QO.loadA ty52 (by rfl) (by repeat (first | exact List.Mem.head _ | refine List.Mem.tail _ ?_)) (by rfl) (by rfl)) ?_) | (refine RS.q rfl (QO.loadOA ty52 (by rfl) (by assumption) (by rfl)) ?_)
    first | (refine RS.q rfl (QO.loadB ty52 (by rfl) (by repeat (first | exact List.Mem.head _ | refine List.Mem.tail _ ?_)) (by rfl)) ?_) | (refine RS.q rfl (QO.loadA ty52 (by rfl) (by repeat (first | exact List.Mem.head _ | refine List.Mem.tail _ ?_)) (by rfl) (by rfl)) ?_) | (refine RS.q rfl (QO.loadOA ty52 (by rfl) (by assumption) (by rfl)) ?_)
    refine RS.call rfl (by rfl) ok38 (by rfl) (fun w ho => compare_ t t2 r r2 A A2 c c2 a b _ ht ht2 (hA.own ho) (hA2.own ho) hr hr2 hm hm2) ?_
    intro v17 H17 h17
    rcases h17 with ⟨_, rfl, rfl⟩ | ⟨h, _⟩
    rotate_left
    · exact absurd h hsp3
    refine RS.q rfl (QO.move) ?_
    refine RS.q rfl (QO.extract (by rfl) (by rfl)) ?_
    refine RS.q rfl (QO.extract (by rfl) (by rfl)) ?_
    refine RS.q rfl (QO.assign) ?_
    refine RS.q rfl (QO.assign) ?_
    refine RS.nil ?_
    refine thenC_n ?_
    refine CS.seq ?_
    refine CS.region ?_
    first | (refine RS.q rfl (QO.loadB ty52 (by rfl) (by repeat (first | exact List.Mem.head _ | refine List.Mem.tail _ ?_)) (by rfl)) ?_) | (refine RS.q rfl (QO.loadA ty52 (by rfl) (by repeat (first | exact List.Mem.head _ | refine List.Mem.tail _ ?_)) (by rfl) (by rfl)) ?_) | (refine RS.q rfl (QO.loadOA ty52 (by rfl) (by assumption) (by rfl)) ?_)
    refine RS.call rfl (by rfl) ok39 (by rfl) (fun w ho => editsError t r A a.length c a _ ht rfl (hA.own ho) hr hm) ?_
    rintro _ _ ⟨rfl, rfl⟩
    refine RS.q rfl (QO.assign) ?_
    refine RS.nil ?_
    refine thenC_n ?_
    refine CS.seq ?_
    refine CS.seq ?_
    refine CS.region ?_
    refine RS.q rfl (QO.move) ?_
    refine RS.q rfl (QO.eql (by rfl) (by rfl)) ?_
    refine RS.nil ?_
    refine thenC_n ?_
    refine CS.cond (by rfl) (fun hb2 => ?_) (fun hb2 => ?_)
    · have hb2p := eq_of_beq hb2
      refine CS.region ?_
      first | (refine RS.q rfl (QO.loadB ty52 (by rfl) (by repeat (first | exact List.Mem.head _ | refine List.Mem.tail _ ?_)) (by rfl)) ?_) | (refine RS.q rfl (QO.loadA ty52 (by rfl) (by repeat (first | exact List.Mem.head _ | refine List.Mem.tail _ ?_)) (by rfl) (by rfl)) ?_) | (refine RS.q rfl (QO.loadOA ty52 (by rfl) (by assumption) (by rfl)) ?_)
      refine RS.call rfl (by rfl) ok39 (by rfl) (fun w ho => editsError t2 r2 A2 b.length c2 b _ ht2 rfl (hA2.own ho) hr2 hm2) ?_
      rintro _ _ ⟨rfl, rfl⟩
      refine RS.q rfl (QO.assign) ?_
      refine RS.nil ?_
      refine thenC_n ?_
      refine CS.seq ?_
      refine CS.seq ?_
      refine CS.region ?_
      refine RS.q rfl (QO.move) ?_
      refine RS.q rfl (QO.neq (by rfl) (by rfl)) ?_
      refine RS.nil ?_
      refine thenC_n ?_
      refine CS.condT (by rfl) (by first | exact bne_iff_ne.2 (cmpE_b hsp3 (by assumption)) | exact bne_iff_ne.2 (by assumption)) ?_
      refine CS.seq ?_
      refine CS.region ?_
      refine RS.q rfl (QO.move) ?_
      refine RS.q rfl (QO.move) ?_
      refine RS.q rfl (QO.eql (by rfl) (by rfl)) ?_
      refine RS.q rfl (QO.move) ?_
      refine RS.on (dj := 31) rfl (congrArg Value.bool (by first | exact beq_iff_eq.2 (cmpE_r (by assumption)) | exact beq_iff_eq.2 (cmpE_l (by assumption)))) ?_
      refine RS.q rfl (QO.move) ?_
      refine RS.on (dj := 31) rfl (congrArg Value.bool (by first | exact beq_iff_eq.2 (cmpE_r (by assumption)) | exact beq_iff_eq.2 (cmpE_l (by assumption)))) ?_
      refine RS.q rfl (QO.lenS Tryd.underlying71 (by rfl)) ?_
      refine RS.on (dj := 31) rfl (congrArg Value.bool (by first | exact beq_iff_eq.2 (cmpE_r (by assumption)) | exact beq_iff_eq.2 (cmpE_l (by assumption)))) ?_
      refine RS.q rfl (QO.eql (by rfl) (by rfl)) ?_
      refine RS.q rfl (QO.pickT (by rfl) (by first | exact beq_iff_eq.2 (cmpE_r (by assumption)) | exact beq_iff_eq.2 (cmpE_l (by assumption))) (by rfl)) ?_
      refine RS.q rfl (QO.assign) ?_
      refine RS.nil ?_
      refine thenC_n ?_
      refine CS.ret ?_
      refine thenC_r ?_
      refine retQ.mk (H' := []) (.inr rfl) (RVs.tmp (by rfl) RVs.nil) (List.nil_sublist _) ?_
      exact ⟨rfl, rfl⟩
    · have hb2p := ne_of_beq_false hb2
      refine CS.skip ?_
      refine thenC_n ?_
      refine CS.seq ?_
      refine CS.seq ?_
      refine CS.region ?_
      refine RS.q rfl (QO.move) ?_
      refine RS.q rfl (QO.neq (by rfl) (by rfl)) ?_
      refine RS.nil ?_
      refine thenC_n ?_
      refine CS.condT (by rfl) (by first | exact bne_iff_ne.2 (cmpE_b hsp3 (by assumption)) | exact bne_iff_ne.2 (by assumption)) ?_
      refine CS.seq ?_
      refine CS.region ?_
      refine RS.q rfl (QO.move) ?_
      refine RS.q rfl (QO.move) ?_
      refine RS.q rfl (QO.eql (by rfl) (by rfl)) ?_
      refine RS.q rfl (QO.move) ?_
      refine RS.on (dj := 31) rfl (congrArg Value.bool (by first | exact beq_iff_eq.2 (cmpE_r (by assumption)) | exact beq_iff_eq.2 (cmpE_l (by assumption)))) ?_
      refine RS.q rfl (QO.move) ?_
      refine RS.on (dj := 31) rfl (congrArg Value.bool (by first | exact beq_iff_eq.2 (cmpE_r (by assumption)) | exact beq_iff_eq.2 (cmpE_l (by assumption)))) ?_
      refine RS.q rfl (QO.lenS Tryd.underlying71 (by rfl)) ?_
      refine RS.on (dj := 31) rfl (congrArg Value.bool (by first | exact beq_iff_eq.2 (cmpE_r (by assumption)) | exact beq_iff_eq.2 (cmpE_l (by assumption)))) ?_
      refine RS.q rfl (QO.eql (by rfl) (by rfl)) ?_
      refine RS.q rfl (QO.pickT (by rfl) (by first | exact beq_iff_eq.2 (cmpE_r (by assumption)) | exact beq_iff_eq.2 (cmpE_l (by assumption))) (by rfl)) ?_
      refine RS.q rfl (QO.assign) ?_
      refine RS.nil ?_
      refine thenC_n ?_
      refine CS.ret ?_
      refine thenC_r ?_
      refine retQ.mk (H' := []) (.inr rfl) (RVs.tmp (by rfl) RVs.nil) (List.nil_sublist _) ?_
      exact ⟨rfl, rfl⟩

theorem editsDifferN (t t2 : List UInt8) (r r2 : Int) (A A2 : Option Addr) (n n2 c c2 : Nat) (a b : List Ev) (f : Int) (W : World) (ht : t.length ≤ maxLen) (ht2 : t2.length ≤ maxLen) (hn : a.length = n) (hn2 : b.length = n2) (hA : ES W A a) (hA2 : ES W A2 b) (hr : ∀ e ∈ a, e.reel.length ≤ maxLen) (hr2 : ∀ e ∈ b, e.reel.length ≤ maxLen) (hm : n ≤ maxLen) (hm2 : n2 ≤ maxLen) : Fn_ Tryd.prog 7 #[.agg #[sv t, iv r, .slice A n c], .agg #[sv t2, iv r2, .slice A2 n2 c2], iv f] W (fun v H => v = .bool true ∧ H = []) := by
  subst hn hn2
  exact editsDiffer t t2 r r2 A A2 c c2 a b f W ht ht2 hA hA2 hr hr2 hm hm2

end Go.Proofs.YtapcgokcfmklbaaDoor
