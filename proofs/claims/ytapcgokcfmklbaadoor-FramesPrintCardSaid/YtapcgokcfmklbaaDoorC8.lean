/-
  Contracts: frames mixed. Conditions: as each theorem says.
-/
import Derived.Test.YtapcgokcfmklbaaDoorC6
namespace Go.Proofs.YtapcgokcfmklbaaDoor
open Go Go.Proofs Go.RowKit

theorem ty26 : tyChk Tryd.prog 26 = some ([.int .i64 0], false, 8) := by kernel_rfl
theorem ok68 : callOK Tryd.prog 68 = true := by kernel_rfl
theorem ok66 : callOK Tryd.prog 66 = true := by kernel_rfl
/-- what a mix of two numbers gives -/
def lerpV (a b t : Nat) : Nat := if fcmpB .eql t 0 then cl a else if fcmpB .eql t 1065353216 then cl b else fo .add a (fo .mul (fo .sub b a) t)
theorem lerpV_0 {a b t : Nat} (h : fcmpB .eql t 0 = true) : cl a = lerpV a b t := by unfold lerpV; rw [if_pos h]
theorem lerpV_1 {a b t : Nat} (h : fcmpB .eql t 0 = false) (h1 : fcmpB .eql t 1065353216 = true) : cl b = lerpV a b t := by unfold lerpV; rw [if_neg (by rw [h]; decide), if_pos h1]
theorem lerpV_2 {a b t r s q : Nat} (h : fcmpB .eql t 0 = false) (h1 : fcmpB .eql t 1065353216 = false) (hr : FR (fop .sub b a) r) (hs : FR (fop .mul r t) s) (hq : FR (fop .add a s) q) : cl q = lerpV a b t := by
  unfold lerpV
  rw [if_neg (by rw [h]; decide), if_neg (by rw [h1]; decide)]
  have h2 := hs.cl' (hr.cl.trans (cl_fo _ _ _).symm) rfl
  exact hq.cl' rfl (h2.trans (cl_fo _ _ _).symm)
theorem cl_lerpV (a b t : Nat) : cl (lerpV a b t) = lerpV a b t := by
  unfold lerpV
  split
  · exact cl_cl _
  · split
    · exact cl_cl _
    · exact cl_fo _ _ _

def f2 {α : Type} (a b : α) (k : Nat) : α := if k = 0 then a else b
theorem two_at2 (X Y X2 Y2 : Int) (a b a2 b2 : Int) (A A2 : Option Addr) (n n2 c c2 k j : Nat) (v : Value) (h : k < 2) (hj : [iv (f2 X X2 k), iv (f2 Y Y2 k), iv (f2 a a2 k), iv (f2 b b2 k), Value.slice (f2 A A2 k) (f2 n n2 k) (f2 c c2 k)][j]? = some v) :
    [iv X, iv Y, iv a, iv b, Value.slice A n c, iv X2, iv Y2, iv a2, iv b2, Value.slice A2 n2 c2][k * 5 + j]? = some v := by
  match k, h with
  | 0, _ =>
    rw [show 0 * 5 + j = j by omega]
    have h1 : j < 5 := (List.getElem?_eq_some_iff.1 hj).1
    match j, h1 with
    | 0, _ => exact hj
    | 1, _ => exact hj
    | 2, _ => exact hj
    | 3, _ => exact hj
    | 4, _ => exact hj
  | 1, _ =>
    have h1 : j < 5 := (List.getElem?_eq_some_iff.1 hj).1
    match j, h1 with
    | 0, _ => exact hj
    | 1, _ => exact hj
    | 2, _ => exact hj
    | 3, _ => exact hj
    | 4, _ => exact hj

theorem addr_add0 (g k : Nat) : (⟨g, 0, none⟩ : Addr).add k = ⟨g, k, none⟩ := by rw [addr_add, Nat.zero_add]

/-- what is wrong with a matte -/
def mErr (x y w h : Int) (n : Nat) : Int := if regErr x y w h ≠ 0 then regErr x y w h else if (n : Int) ≠ w * h then 2 else 0
theorem mErr_reg {x y w h : Int} {n : Nat} (e : regErr x y w h ≠ 0) : regErr x y w h = mErr x y w h n := by unfold mErr; rw [if_pos e]
theorem mErr_len {x y w h : Int} {n : Nat} (e : regErr x y w h = 0) (e2 : (n : Int) ≠ w * h) : 2 = mErr x y w h n := by unfold mErr; rw [if_neg (by simpa using e), if_pos e2]
theorem mErr_ok {x y w h : Int} {n : Nat} (e : regErr x y w h = 0) (e2 : (n : Int) = w * h) : 0 = mErr x y w h n := by unfold mErr; rw [if_neg (by simpa using e), if_neg (by simpa using e2)]
theorem mErr_zero {x y w h : Int} {n : Nat} (e : mErr x y w h n = 0) : regErr x y w h = 0 ∧ (n : Int) = w * h := by
  unfold mErr at e
  split at e
  · contradiction
  · rename_i h1
    split at e
    · cases e
    · rename_i h2
      exact ⟨Decidable.not_not.1 h1, Decidable.not_not.1 h2⟩

set_option maxRecDepth 100000 in
theorem when (is : Bool) (e : Int) (W : World) : Fn_ Tryd.prog 68 #[.bool is, iv e] W (fun v H => v = iv (if is then e else 0) ∧ H = []) := by
  refine Fn_.intro Tryd.func68 rfl rfl (by rfl) ?_
  refine CS.seq ?_
  refine CS.region ?_
  refine RS.q rfl (QO.assign) ?_
  refine RS.nil ?_
  refine thenC_n ?_
  refine CS.seq ?_
  refine CS.seq ?_
  refine CS.region ?_
  refine RS.q rfl (QO.move) ?_
  refine RS.nil ?_
  refine thenC_n ?_
  refine CS.cond (by rfl) (fun hb0 => ?_) (fun hb0 => ?_)
  · refine CS.seq ?_
    refine CS.region ?_
    refine RS.q rfl (QO.move) ?_
    refine RS.q rfl (QO.assign) ?_
    refine RS.nil ?_
    refine thenC_n ?_
    refine CS.ret ?_
    refine thenC_r ?_
    refine retQ.mk (H' := []) (.inr rfl) (RVs.tmp (by rfl) RVs.nil) (List.nil_sublist _) ?_
    exact ⟨congrArg iv (by rw [hb0]; rfl), rfl⟩
  · refine CS.skip ?_
    refine thenC_n ?_
    refine CS.seq ?_
    refine CS.region ?_
    refine RS.q rfl (QO.assign) ?_
    refine RS.nil ?_
    refine thenC_n ?_
    refine CS.ret ?_
    refine retQ.mk (H' := []) (.inr rfl) (RVs.tmp (by rfl) RVs.nil) (List.nil_sublist _) ?_
    exact ⟨congrArg iv (by rw [hb0]; rfl), rfl⟩

set_option maxRecDepth 100000 in
theorem first2 (a b : Int) (g : Nat) (W : World) (hcell : ∀ j v, [iv a, iv b][j]? = some v → W.cell? ⟨g, j, none⟩ = some v) : Fn_ Tryd.prog 66 #[.slice (some ⟨g, 0, none⟩) 2 2] W (fun v H => v = iv (if a ≠ 0 then a else b) ∧ H = []) := by
  refine Fn_.intro Tryd.func66 rfl rfl (by rfl) ?_
  refine CS.seq ?_
  refine CS.region ?_
  refine RS.q rfl (QO.assign) ?_
  refine RS.nil ?_
  refine thenC_n ?_
  refine CS.seq ?_
  refine CS.seq ?_
  refine CS.region ?_
  refine RS.q rfl (QO.move) ?_
  refine RS.q rfl (QO.lenS Tryd.underlying183 (by rfl)) ?_
  refine RS.q rfl (QO.move) ?_
  refine RS.nil ?_
  refine thenC_n ?_
  refine CS.block ?_
  refine CS.loop (X := Nat) [2, 4, 7, 8, 9, 10, 11, 12, 13, 14] (fun k => [(7, iv (k : Int))]) (fun k => []) (fun k => k ≤ 2 ∧ ∀ j, j < k → f2 a b j = 0) (fun k => 2 - k) 0 ⟨Nat.zero_le _, fun j hj => absurd hj (Nat.not_lt_zero _)⟩ ?_ ?_ ?_
  · exact (by repeat (first | exact kn_nil | refine kn_cons (by rfl) ?_))
  · exact (by repeat (first | exact List.Sublist.refl _ | exact List.nil_sublist _ | refine List.Sublist.cons_cons _ ?_ | refine List.Sublist.cons _ ?_ | exact Sbp.refl | exact Sbp.nil | refine Sbp.cons (by repeat (first | exact Rem.head | apply Rem.tail)) ?_ | exact Sbp.app | refine Sbp.skip ?_))
  · intro k gj2 hz
    obtain ⟨hk, hz⟩ := hz
    refine CS.seq ?_
    refine CS.region ?_
    refine RS.q rfl (QO.lss (by rfl) (by rfl)) ?_
    refine RS.nil ?_
    refine thenC_n ?_
    refine CS.seq ?_
    refine CS.cond (by rfl) (fun hb0 => ?_) (fun hb0 => ?_)
    · have hb0p := of_decide_eq_true hb0
      refine CS.skip ?_
      refine thenC_n ?_
      refine CS.seq ?_
      refine CS.block ?_
      refine CS.seq ?_
      refine CS.region ?_
      first | (refine RS.q rfl (QO.idx0 Tryd.underlying183 ty26 (by rfl) (by rfl) (by rfl) (by omega)) ?_) | (refine RS.q rfl (QO.idxn Tryd.underlying183 ty26 (by rfl) (by rfl) (by rfl) (by omega)) ?_) | (refine RS.q rfl (QO.idx1 Tryd.underlying183 ty26 (by rfl) (by rfl) (by omega) (by omega)) ?_)
      refine RS.q rfl (QO.loadO ty26 (v := iv (f2 a b k)) (by rfl) (hcell _ _ (show [iv a, iv b][k]? = some (iv (f2 a b k)) from by
    match k, (show k < 2 by omega) with
    | 0, _ => rfl
    | 1, _ => rfl))) ?_
      refine RS.q rfl (QO.assign) ?_
      refine RS.nil ?_
      refine thenC_n ?_
      refine CS.seq ?_
      refine CS.region ?_
      refine RS.q rfl (QO.move) ?_
      refine RS.q rfl (QO.neq (by rfl) (by rfl)) ?_
      refine RS.nil ?_
      refine thenC_n ?_
      refine CS.cond (by rfl) (fun hb1 => ?_) (fun hb1 => ?_)
      · have hb1p := bne_iff_ne.1 hb1
        refine CS.seq ?_
        refine CS.region ?_
        refine RS.q rfl (QO.move) ?_
        refine RS.q rfl (QO.assign) ?_
        refine RS.nil ?_
        refine thenC_n ?_
        refine CS.ret ?_
        refine blockC_r ?_
        refine thenC_r ?_
        refine loopQ_r ?_
        refine blockC_r ?_
        refine thenC_r ?_
        refine retQ.mk (H' := []) (.inr rfl) (RVs.tmp (by rfl) RVs.nil) (List.nil_sublist _) ?_
        exact ⟨congrArg iv (show f2 a b k = if a ≠ 0 then a else b from by
            match k, (show k < 2 by omega), hz with
            | 0, _, _ => exact (if_pos hb1p).symm
            | 1, _, h9 => exact (if_neg (Decidable.not_not.2 (h9 0 (by omega)))).symm), rfl⟩
      · have hb1p := of_bne_false hb1
        refine CS.skip ?_
        refine blockC_n ?_
        refine thenC_n ?_
        refine CS.region ?_
        first | (refine RS.q rfl (QO.add (by rfl) (by rfl) (by omega) (by omega)) ?_) | (refine RS.q rfl (QO.ibin (by rfl) (by rfl) trivial) ?_)
        refine RS.q rfl (QO.move) ?_
        refine RS.nil ?_
        refine loopQ_n (by intro t ht; repeat (first | with_reducible exact rfl | exact frame_puts ht (frame_mix ht) _ rfl | (refine frame_put rfl ht ?_) | (refine frame_puts ht ?_ _ rfl) | exact frame_mix ht | (refine frame_mix2 rfl ht ?_) | exact rfl)) ?_
        exact ⟨k + 1, ⟨by omega, fun j hj => by
            by_cases e : j = k
            · subst e; exact of_bne_false hb1
            · exact hz j (by omega)⟩, by omega, (by repeat (first | exact kn_nil | refine kn_cons (by rfl) ?_)), (by repeat (first | exact List.Sublist.refl _ | exact List.nil_sublist _ | refine List.Sublist.cons_cons _ ?_ | refine List.Sublist.cons _ ?_ | exact Sbp.refl | exact Sbp.nil | refine Sbp.cons (by repeat (first | exact Rem.head | apply Rem.tail)) ?_ | exact Sbp.app | refine Sbp.skip ?_))⟩
    · have hb0p := of_decide_eq_false hb0
      refine CS.exit ?_
      refine thenC_x ?_
      refine loopQ_x ?_
      refine blockC_x ?_
      refine thenC_n ?_
      refine CS.seq ?_
      refine CS.region ?_
      refine RS.q rfl (QO.assign) ?_
      refine RS.nil ?_
      refine thenC_n ?_
      refine CS.ret ?_
      refine retQ.mk (H' := []) (.inr rfl) (RVs.tmp (by rfl) RVs.nil) (List.nil_sublist _) ?_
      obtain rfl : k = 2 := by omega
      exact ⟨congrArg iv (by rw [if_neg (Decidable.not_not.2 (show a = 0 from hz 0 (by omega)))]; exact (hz 1 (by omega)).symm), rfl⟩

/-- what a call that hands back a frame or an error comes to -/
def FrR (err X Y wi he : Int) (vals : List Nat) (v : Value) (H : HL) : Prop :=
  (err = 0 ∧ ∃ g cap junk, v = .tuple #[.agg #[iv X, iv Y, iv wi, iv he, .slice (some ⟨g, 0, none⟩) vals.length cap], iv 0] ∧ H = [⟨g, 36, vals.map flt ++ junk⟩] ∧ vals.length ≤ cap ∧ cap ≤ maxLen) ∨
  (err ≠ 0 ∧ v = .tuple #[.agg #[iv 0, iv 0, iv 0, iv 0, .slice none 0 0], iv err] ∧ H = [])
def FV (err X Y wi he : Int) (vals : List Nat) (x y w h : Int) (A : Option Addr) (n : Nat) (H : HL) : Prop :=
  (err ≠ 0 ∧ x = 0 ∧ y = 0 ∧ w = 0 ∧ h = 0 ∧ n = 0) ∨ (err = 0 ∧ x = X ∧ y = Y ∧ w = wi ∧ h = he ∧ n = vals.length ∧ n ≤ maxLen ∧ ∃ g junk, A = some ⟨g, 0, none⟩ ∧ (⟨g, 36, vals.map flt ++ junk⟩ : B) ∈ H)
theorem FrR.any {err X Y wi he : Int} {vals : List Nat} {v : Value} {H : HL} (h : FrR err X Y wi he vals v H) :
    ∃ (x y w h : Int) (A : Option Addr) (n c : Nat), v = .tuple #[.agg #[iv x, iv y, iv w, iv h, .slice A n c], iv err] ∧ FV err X Y wi he vals x y w h A n H := by
  rcases h with ⟨h1, g, cap, junk, rfl, rfl, h2, h3⟩ | ⟨h1, rfl, rfl⟩
  · subst h1
    exact ⟨_, _, _, _, _, _, _, rfl, .inr ⟨rfl, rfl, rfl, rfl, rfl, rfl, by omega, g, junk, rfl, List.Mem.head _⟩⟩
  · exact ⟨_, _, _, _, _, _, _, rfl, .inl ⟨h1, rfl, rfl, rfl, rfl, rfl⟩⟩
/-- the same, in a world -/
def FW (err X Y wi he : Int) (vals : List Nat) (x y w h : Int) (A : Option Addr) (n : Nat) (W : World) : Prop :=
  (err ≠ 0 ∧ x = 0 ∧ y = 0 ∧ w = 0 ∧ h = 0 ∧ n = 0) ∨ (err = 0 ∧ x = X ∧ y = Y ∧ w = wi ∧ h = he ∧ n = vals.length ∧ n ≤ maxLen ∧ FS W A vals)
theorem FV.fw {err X Y wi he : Int} {vals : List Nat} {x y w h : Int} {A : Option Addr} {n : Nat} {H H' : HL} {W0 W : World} (hv : FV err X Y wi he vals x y w h A n H) (ho : Own W0 W H') (hs : ∀ b ∈ H, b ∈ H') : FW err X Y wi he vals x y w h A n W := by
  rcases hv with h1 | ⟨h1, h2, h3, h4, h5, h6, h7, g, junk, rfl, hm⟩
  · exact .inl h1
  · exact .inr ⟨h1, h2, h3, h4, h5, h6, h7, FS.blk ho (hs _ hm)⟩

set_option maxRecDepth 100000 in
theorem alike (err X Y wi he : Int) (vals : List Nat) (x y w_ h x' y' w' h' : Int) (A A' : Option Addr) (n c n' c' : Nat) (W : World) (h1 : FW err X Y wi he vals x y w_ h A n W) (h2 : FW err X Y wi he vals x' y' w' h' A' n' W) : Fn_ Tryd.prog 55 #[.agg #[iv x, iv y, iv w_, iv h, .slice A n c], iv err, .agg #[iv x', iv y', iv w', iv h', .slice A' n' c'], iv err] W (fun v H => v = .bool true ∧ H = []) := by
  refine Fn_.intro Tryd.func55 rfl rfl (by rfl) ?_
  refine CS.seq ?_
  refine CS.region ?_
  refine RS.box rfl (by rfl) (by rfl) ?_
  intro g4
  refine RS.box rfl (by rfl) (by rfl) ?_
  intro g6
  refine RS.q rfl (QO.assign) ?_
  refine RS.nil ?_
  refine thenC_n ?_
  refine CS.seq ?_
  refine CS.seq ?_
  refine CS.region ?_
  refine RS.q rfl (QO.move) ?_
  refine RS.q rfl (QO.move) ?_
  refine RS.qv rfl (QO.neq (by rfl) (by rfl)) (congrArg Value.bool (bne_self_eq_false err)) ?_
  refine RS.nil ?_
  refine thenC_n ?_
  refine CS.condF (by rfl) rfl ?_
  refine CS.skip ?_
  refine thenC_n ?_
  refine CS.seq ?_
  refine CS.seq ?_
  refine CS.region ?_
  refine RS.q rfl (QO.move) ?_
  refine RS.q rfl (QO.neq (by rfl) (by rfl)) ?_
  refine RS.nil ?_
  refine thenC_n ?_
  refine CS.cond (by rfl) (fun hb0 => ?_) (fun hb0 => ?_)
  · have hb0p := bne_iff_ne.1 hb0
    refine CS.seq ?_
    refine CS.region ?_
    obtain ⟨_, rfl, rfl, rfl, rfl, rfl⟩ := h1.resolve_right (fun hh => hb0p hh.1)
    refine RS.q rfl (QO.fieldAddr fo34_0 (by rfl)) ?_
    first | (refine RS.q rfl (QO.loadB ty31 (by rfl) (by repeat (first | exact List.Mem.head _ | refine List.Mem.tail _ ?_)) (by rfl)) ?_) | (refine RS.q rfl (QO.loadA ty31 (by rfl) (by repeat (first | exact List.Mem.head _ | refine List.Mem.tail _ ?_)) (by rfl) (by rfl)) ?_) | (refine RS.q rfl (QO.loadOA ty31 (by rfl) (by assumption) (by rfl)) ?_)
    refine RS.q rfl (QO.build ty31 pl31 (by rfl)) ?_
    first | (refine RS.q rfl (QO.seql4 eqt31 (by rfl) (by rfl)) ?_) | (refine RS.q rfl (QO.seql eqt31 (by decide) (by rfl) (by rfl) (by rfl) (by rfl)) ?_)
    refine RS.q rfl (QO.move) ?_
    refine RS.on (dj := 18) rfl (congrArg Value.bool rfl) ?_
    refine RS.q rfl (QO.fieldAddr fo34_1 (by rfl)) ?_
    refine RS.on (dj := 18) rfl (congrArg Value.bool rfl) ?_
    first | (refine RS.q rfl (QO.load ty32 (by rfl) (by repeat (first | exact List.Mem.head _ | refine List.Mem.tail _ ?_)) (by rfl)) ?_) | (refine RS.q rfl (QO.loadO ty32 (by rfl) (by assumption)) ?_) | (refine RS.q rfl (QO.load ty32 (by rfl) (by repeat (first | exact List.Mem.head _ | refine List.Mem.tail _ ?_)) (by assumption)) ?_)
    refine RS.on (dj := 18) rfl (congrArg Value.bool rfl) ?_
    refine RS.q rfl (QO.lenS Tryd.underlying32 (by rfl)) ?_
    refine RS.on (dj := 18) rfl (congrArg Value.bool rfl) ?_
    refine RS.q rfl (QO.eql (by rfl) (by rfl)) ?_
    refine RS.q rfl (QO.pickT (by rfl) rfl (by rfl)) ?_
    refine RS.q rfl (QO.assign) ?_
    refine RS.nil ?_
    refine thenC_n ?_
    refine CS.ret ?_
    refine thenC_r ?_
    refine retQ.mk (H' := []) (.inr rfl) (RVs.tmp (by rfl) RVs.nil) (List.nil_sublist _) ?_
    exact ⟨rfl, rfl⟩
  · have hb0p := of_bne_false hb0
    refine CS.skip ?_
    refine thenC_n ?_
    refine CS.seq ?_
    refine CS.region ?_
    obtain ⟨_, rfl, rfl, rfl, rfl, rfl, hmx, hfs⟩ := h1.resolve_left (fun hh => hh.1 (of_bne_false hb0))
    obtain ⟨_, rfl, rfl, rfl, rfl, rfl, _, hfs2⟩ := h2.resolve_left (fun hh => hh.1 (of_bne_false hb0))
    first | (refine RS.q rfl (QO.loadB ty34 (by rfl) (by repeat (first | exact List.Mem.head _ | refine List.Mem.tail _ ?_)) (by rfl)) ?_) | (refine RS.q rfl (QO.loadA ty34 (by rfl) (by repeat (first | exact List.Mem.head _ | refine List.Mem.tail _ ?_)) (by rfl) (by rfl)) ?_) | (refine RS.q rfl (QO.loadOA ty34 (by rfl) (by assumption) (by rfl)) ?_)
    first | (refine RS.q rfl (QO.loadB ty34 (by rfl) (by repeat (first | exact List.Mem.head _ | refine List.Mem.tail _ ?_)) (by rfl)) ?_) | (refine RS.q rfl (QO.loadA ty34 (by rfl) (by repeat (first | exact List.Mem.head _ | refine List.Mem.tail _ ?_)) (by rfl) (by rfl)) ?_) | (refine RS.q rfl (QO.loadOA ty34 (by rfl) (by assumption) (by rfl)) ?_)
    refine RS.call rfl (by rfl) ok22 (by rfl) (fun w ho => sameTrue _ _ _ _ _ _ _ _ _ _ vals w rfl rfl (hfs.own ho) (hfs2.own ho) hmx) ?_
    rintro _ _ ⟨rfl, rfl⟩
    refine RS.q rfl (QO.assign) ?_
    refine RS.nil ?_
    refine thenC_n ?_
    refine CS.ret ?_
    refine retQ.mk (H' := []) (.inr rfl) (RVs.tmp (by rfl) RVs.nil) (List.nil_sublist _) ?_
    exact ⟨rfl, rfl⟩

theorem FS.at_ {W : World} {A : Option Addr} {xs : List Nat} (h : FS W A xs) (i : Nat) (hi : i < xs.length) : ∃ b o, A = some ⟨b, o, none⟩ ∧ W.cell? ⟨b, o + i, none⟩ = some (flt (xs.getD i 0)) := by
  obtain ⟨b, o, h1, h2⟩ := h (by omega)
  exact ⟨b, o, h1, h2 _ _ (by rw [List.getElem?_eq_getElem hi, getD_at])⟩

/-- frames must lie alike -/
def plc (r r2 : List Int) : Int := if r = r2 then 0 else 5
def thE (e : Int) (r r2 r3 : List Int) : Int := if e ≠ 0 then e else if r = r2 ∧ r = r3 then 0 else 5
theorem FrR.mk0 {err X Y wi he : Int} {vals : List Nat} {g n : Nat} (hl : vals.length = n) (hn : n ≤ maxLen) (e : err = 0) : FrR err X Y wi he vals (.tuple #[.agg #[iv X, iv Y, iv wi, iv he, .slice (some ⟨g, 0, none⟩) n n], iv 0]) [⟨g, 36, vals.map flt⟩] := by
  subst hl
  exact .inl ⟨e, g, _, [], rfl, by rw [List.append_nil], Nat.le_refl _, hn⟩
theorem FrR.mkE {err X Y wi he k : Int} {vals : List Nat} (e : err = k) (hk : k ≠ 0) : FrR err X Y wi he vals (.tuple #[.agg #[iv 0, iv 0, iv 0, iv 0, .slice none 0 0], iv k]) [] := by
  subst e
  exact .inr ⟨hk, rfl, rfl⟩
theorem reg_eq {a b c d a' b' c' d' : Int} (h : [a, b, c, d] = [a', b', c', d']) : a = a' ∧ b = b' ∧ c = c' ∧ d = d' := by simpa using h
def mixV (ys zs : List Nat) (t n : Nat) : List Nat := (List.range n).map fun i => cl (lerpV (ys.getD i 0) (zs.getD i 0) t)
def thrV (ys zs ms : List Nat) (n : Nat) : List Nat := (List.range n).map fun i => cl (lerpV (ys.getD i 0) (zs.getD i 0) (ms.getD (i / 4) 0))

/-- a matte brought to a region -/
def mofF (ms : List Nat) (i : Nat) : Nat := if 0 < ms.length then ms.getD (i % ms.length) 0 else 0
theorem partL_skip (f : Nat → Nat) (N k : Nat) (h : f k = 0) : partL f N k = partL f N (k + 1) := by
  unfold partL
  apply List.map_congr_left
  intro i _
  by_cases e : i = k
  · subst e; simp [h]
  · have : (i < k ↔ i < k + 1) := by omega
    simp [this]

end Go.Proofs.YtapcgokcfmklbaaDoor
