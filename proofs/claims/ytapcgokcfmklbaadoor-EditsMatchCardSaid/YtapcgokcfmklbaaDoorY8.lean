/-
  The law EditsMatch of the given rows: at every input the call returns true and leaves its arguments as they were. Conditions: none.
-/
import Derived.Test.YtapcgokcfmklbaaDoorY7
import Derived.Test.YtapcgokcfmklbaaDoorRows
import Derived.Test.YtapcgokcfmklbaaDoorCards
import Derived.Test.YtapcgokcfmklbaaDoorTie
import Derived.SevenTiedAt
import Derived.Deep.DeepLaidRun
import Derived.LaidHandle
import Derived.LaidMore
import Derived.WalkKit
import Derived.ProofKit
import Derived.OpenShut
import Derived.ShutString
import Derived.ChangeOld
import Derived.Below
namespace Go.Proofs.YtapcgokcfmklbaaDoor
open Go Go.Proofs Go.RowKit

theorem fo82_1 : fldOff Tryd.prog 82 1 = some (1, 9) := by kernel_rfl
theorem fo82_2 : fldOff Tryd.prog 82 2 = some (2, 3) := by kernel_rfl
theorem ok39 : callOK Tryd.prog 39 = true := by kernel_rfl
theorem ok44 : callOK Tryd.prog 44 = true := by kernel_rfl
theorem ok45 : callOK Tryd.prog 45 = true := by kernel_rfl
theorem ok46 : callOK Tryd.prog 46 = true := by kernel_rfl
theorem ok48 : callOK Tryd.prog 48 = true := by kernel_rfl
theorem ok49 : callOK Tryd.prog 49 = true := by kernel_rfl
theorem ok50 : callOK Tryd.prog 50 = true := by kernel_rfl
theorem ok51 : callOK Tryd.prog 51 = true := by kernel_rfl
theorem ok52 : callOK Tryd.prog 52 = true := by kernel_rfl
theorem ok100 : callOK Tryd.prog 100 = true := by kernel_rfl
theorem ok114 : callOK Tryd.prog 114 = true := by kernel_rfl

theorem rem_ap {b : B} {K H H' : HL} (h : Rem b H H') : Rem b (K ++ H) (K ++ H') := by
  induction K with
  | nil => exact h
  | cons c K ih => exact .tail ih
theorem RS.sbpw {P W n ops Q rest e H H2} (hs : Sbp H2 H) (h : RS P W n ops Q rest e H2) : RS P W n ops Q rest e H := fun a w hr ho => h a w hr (ho.sbp hs)
theorem sbp_sw (C K T : HL) : Sbp (C ++ (K ++ T)) (K ++ (C ++ T)) := by
  induction C with
  | nil => exact Sbp.refl
  | cons c C ih => exact Sbp.cons (rem_ap Rem.head) ih
theorem mix91 : mixT Tryd.prog 91 [1, 0, 0] = true := by kernel_rfl
theorem mix82 : mixT Tryd.prog 82 [0, 1, 0, 1, 0, 2] = true := by kernel_rfl
def atF (l : List Ev) (f : Int) : Nat × Sh × Int := if f < 0 then (0, Sh.z, 3) else atR l f
def atX (t : List UInt8) (rate : Int) (l : List Ev) (f : Int) : Nat × Sh × Int := if edE t rate l ≠ 0 then (0, Sh.z, edE t rate l) else atF l f
theorem atX_bad {t : List UInt8} {rate f : Int} {l : List Ev} (h : edE t rate l ≠ 0) : atX t rate l f = (0, Sh.z, edE t rate l) := if_pos h
theorem atX_ok {t : List UInt8} {rate f : Int} {l : List Ev} (h : edE t rate l = 0) : atX t rate l f = atF l f := if_neg (by rw [h]; decide)
theorem atF_n {l : List Ev} {f : Int} (h : f < 0) : atF l f = (0, Sh.z, 3) := if_pos h
theorem atF_p {l : List Ev} {f : Int} (h : ¬ f < 0) : atF l f = atR l f := if_neg h
theorem atF_num {t : List UInt8} {r : Int} {l : List Ev} (hE : edE t r l = 0) (f : Int) : (atF l f).2.1.share < 2139095040 := by
  by_cases h : f < 0
  · rw [atF_n h]; decide
  · rw [atF_p h]; exact share_pos hE f
theorem atF_0 {l : List Ev} {f : Int} {i : Nat} {s : Sh} {e : Int} (h : atF l f = (i, s, e)) (he : e = 0) : atR l f = (i, s, 0) := by
  by_cases h0 : f < 0
  · rw [atF_n h0] at h
    have := congrArg (fun x => x.2.2) h
    simp only at this
    omega
  · rw [atF_p h0] at h
    rw [h, he]
def fdI (i : Nat) (s : Sh) : List Fd := [.i (i : Nat), .s s.reel, .i s.frame, .s s.back, .i s.bf, .f s.share]
theorem fdI_self {i : Nat} {s : Sh} (h : s.share < 2139095040) : allEq (fdI i s) (fdI i s) = true := by
  have h1 := pos_eql h h
  simp [fdI, allEq, Fd.eq, h1]
theorem fdI_nself {i : Nat} {s : Sh} (h : s.share < 2139095040) : (!allEq (fdI i s) (fdI i s)) = false := by rw [fdI_self h]; rfl
def fdP (p : Pl) : List Fd := [.s p.reel, .i p.i, .i p.o]
theorem fdP_self (p : Pl) : (!allEq (fdP p) (fdP p)) = false := by simp [fdP, allEq, Fd.eq]
theorem srcE_rg {t : List UInt8} {rate hd : Int} {l : List Ev} (h : srcE t rate l hd = 0) : 0 ≤ hd ∧ hd ≤ 1000 := by
  unfold srcE at h
  split at h
  · rename_i h1; exact absurd h h1
  · split at h <;> omega
theorem src_same {t : List UInt8} {rate hd : Int} {l : List Ev} {m m' : List Pl} (hE : edE t rate l = 0) (a1 : srcE t rate l hd ≠ 0 → m = []) (a2 : srcE t rate l hd = 0 → IsM l hd m) (b1 : srcE t rate l hd ≠ 0 → m' = []) (b2 : srcE t rate l hd = 0 → IsM l hd m') : m = m' := by
  by_cases h : srcE t rate l hd = 0
  · have h1 := srcE_rg h
    exact IsM.uniq hE h1.1 h1.2 (a2 h) (b2 h)
  · rw [a1 h, b1 h]
/-- pulls in memory -/
def PS (w : World) (A : Option Addr) (m : List Pl) : Prop :=
  0 < m.length → ∃ b o, A = some ⟨b, o, none⟩ ∧ ∀ i, i < m.length → ∀ j v, (plc (m.getD i default))[j]? = some v → w.cell? ((⟨b, o + i * 3, none⟩ : Addr).add j) = some v
theorem PS.own {W w : World} {H : HL} {A : Option Addr} {m : List Pl} (h : PS W A m) (ho : Own W w H) : PS w A m := fun h0 => by
  obtain ⟨b, o, h1, h2⟩ := h h0
  exact ⟨b, o, h1, fun i hi j v hj => ho.old (h2 i hi j v hj)⟩
theorem Row.pl {v : Value} {m : List Pl} {Hr : HL} (h : Row 91 3 v m.length (pls m) Hr) : ∃ A c, v = .slice A m.length c ∧ m.length ≤ maxLen ∧ ∀ (W w : World) (H2 : HL), Own W w H2 → (∀ b, b ∈ Hr → b ∈ H2) → PS w A m := by
  by_cases h0 : m.length = 0
  · obtain ⟨A, c, h1, h2, h3⟩ := h.slice
    exact ⟨A, c, h1, Nat.le_trans h2 h3, fun _ _ _ _ _ hp => absurd hp (by omega)⟩
  · obtain ⟨g, cap, junk, h1, h2, h3, h4, _⟩ := h.some3 (by omega)
    refine ⟨_, _, h1, Nat.le_trans h3 h4, fun W w H2 ho hs _ => ⟨g, 0, rfl, fun i hi j v hj => ?_⟩⟩
    have hb := ho.blk ⟨g, 91, pls m ++ junk⟩ (hs _ (by rw [h2]; exact List.mem_singleton.2 rfl))
    rw [addr_add, hb.2.cell]
    show (pls m ++ junk)[0 + i * 3 + j]? = _
    have hi2 : m[i]? = Option.some (m.getD i default) := by rw [List.getD_eq_getElem?_getD, List.getElem?_eq_getElem hi]; rfl
    rw [Nat.zero_add]
    exact pls_at hi2 hj junk
def inP (p : Pl) (r : List UInt8) (n : Int) : Bool := (p.reel == r && decide (p.i ≤ n)) && decide (n < p.o)
theorem anyP_T {m : List Pl} {r : List UInt8} {n : Int} {k : Nat} (hk : k < m.length) (h : inP (m.getD k default) r n = true) : anyP m r n = true := by
  unfold anyP
  rw [List.any_eq_true]
  refine ⟨_, ?_, h⟩
  rw [List.getD_eq_getElem?_getD, List.getElem?_eq_getElem hk]; exact List.getElem_mem _
theorem anyP_F {m : List Pl} {r : List UInt8} {n : Int} (h : ∀ i, i < m.length → inP (m.getD i default) r n = false) : anyP m r n = false := by
  unfold anyP
  rw [List.any_eq_false]
  intro p hp
  obtain ⟨i, hi, rfl⟩ := List.getElem_of_mem hp
  have := h i hi
  rw [List.getD_eq_getElem?_getD, List.getElem?_eq_getElem hi] at this
  simpa [inP] using this

set_option maxHeartbeats 16000000 in
set_option maxRecDepth 100000 in
theorem atA (t : List UInt8) (rate : Int) (A : Option Addr) (c : Nat) (l : List Ev) (f : Int) (W : World) (ht : t.length ≤ maxLen) (hA : ES W A l) (hr : ∀ e ∈ l, e.reel.length ≤ maxLen) (hm : l.length ≤ maxLen) : Fn_ Tryd.prog 45 #[.agg #[sv t, iv rate, .slice A l.length c], iv f] W (fun v H => v = atV (atX t rate l f) ∧ H = []) := by
  refine Fn_.intro Tryd.func45 rfl rfl (by rfl) ?_
  refine CS.seq ?_
  refine CS.region ?_
  refine RS.box rfl (by rfl) (by rfl) ?_
  intro g2
  refine RS.alloc rfl ty82 ?_
  intro g4
  refine RS.q rfl (QO.assign) ?_
  refine RS.nil ?_
  refine thenC_n ?_
  refine CS.seq ?_
  refine CS.seq ?_
  refine CS.region ?_
  first | (refine RS.q rfl (QO.loadB ty52 (by rfl) (by repeat (first | exact List.Mem.head _ | refine List.Mem.tail _ ?_)) (by rfl)) ?_) | (refine RS.q rfl (QO.loadA ty52 (by rfl) (by repeat (first | exact List.Mem.head _ | refine List.Mem.tail _ ?_)) (by rfl) (by rfl)) ?_) | (refine RS.q rfl (QO.loadOA ty52 (by rfl) (by assumption) (by rfl)) ?_)
  refine RS.call rfl (by rfl) ok47 (by rfl) (fun w ho => checkList t rate A l.length c l _ ht rfl (hA.own ho) hr hm) ?_
  rintro _ _ ⟨rfl, rfl⟩
  refine RS.q rfl (QO.assign) ?_
  refine RS.nil ?_
  refine thenC_n ?_
  refine CS.seq ?_
  refine CS.region ?_
  refine RS.q rfl (QO.move) ?_
  refine RS.q rfl (QO.neq (by rfl) (by rfl)) ?_
  refine RS.nil ?_
  refine thenC_n ?_
  refine CS.cond (by rfl) (fun hb0 => ?_) (fun hb0 => ?_)
  · have hb0p := bne_iff_ne.1 hb0
    refine CS.seq ?_
    refine CS.region ?_
    refine RS.q rfl (QO.build ty82 pl82 (by rfl)) ?_
    refine RS.q rfl (QO.move) ?_
    first | refine RS.storeB ty82 (by rfl) (by rfl) (by rfl) (by rfl) (by rfl) (by repeat (first | exact Upd.head | apply Upd.tail | exact Upd.app _ Upd.head)) (by rfl) ?_ | refine RS.storeP ty82 (by rfl) (by rfl) (by rfl) (by rfl) (by rfl) (by repeat (first | exact Upd.head | apply Upd.tail | exact Upd.app _ Upd.head)) (by rfl) ?_
    refine RS.q rfl (QO.assign) ?_
    refine RS.nil ?_
    refine thenC_n ?_
    refine CS.ret ?_
    refine thenC_r ?_
    refine retQ.mk (H' := []) (.inr rfl) (RVs.cellA ty82 (by rfl) (by repeat (first | exact List.Mem.head _ | refine List.Mem.tail _ ?_)) (by rfl) (RVs.tmp (by rfl) RVs.nil)) (List.nil_sublist _) ?_
    rw [atX_bad (by assumption)]
    exact ⟨rfl, rfl⟩
  · have hb0p := of_bne_false hb0
    refine CS.skip ?_
    refine thenC_n ?_
    refine CS.seq ?_
    refine CS.seq ?_
    refine CS.region ?_
    refine RS.q rfl (QO.move) ?_
    refine RS.q rfl (QO.lss (by rfl) (by rfl)) ?_
    refine RS.nil ?_
    refine thenC_n ?_
    refine CS.cond (by rfl) (fun hb1 => ?_) (fun hb1 => ?_)
    · have hb1p := of_decide_eq_true hb1
      refine CS.seq ?_
      refine CS.region ?_
      refine RS.q rfl (QO.build ty82 pl82 (by rfl)) ?_
      first | refine RS.storeB ty82 (by rfl) (by rfl) (by rfl) (by rfl) (by rfl) (by repeat (first | exact Upd.head | apply Upd.tail | exact Upd.app _ Upd.head)) (by rfl) ?_ | refine RS.storeP ty82 (by rfl) (by rfl) (by rfl) (by rfl) (by rfl) (by repeat (first | exact Upd.head | apply Upd.tail | exact Upd.app _ Upd.head)) (by rfl) ?_
      refine RS.q rfl (QO.assign) ?_
      refine RS.nil ?_
      refine thenC_n ?_
      refine CS.ret ?_
      refine thenC_r ?_
      refine retQ.mk (H' := []) (.inr rfl) (RVs.cellA ty82 (by rfl) (by repeat (first | exact List.Mem.head _ | refine List.Mem.tail _ ?_)) (by rfl) (RVs.tmp (by rfl) RVs.nil)) (List.nil_sublist _) ?_
      rw [atX_ok (of_bne_false hb0), atF_n (by assumption)]
      exact ⟨rfl, rfl⟩
    · have hb1p := of_decide_eq_false hb1
      refine CS.skip ?_
      refine thenC_n ?_
      refine CS.seq ?_
      refine CS.region ?_
      first | (refine RS.q rfl (QO.loadB ty52 (by rfl) (by repeat (first | exact List.Mem.head _ | refine List.Mem.tail _ ?_)) (by rfl)) ?_) | (refine RS.q rfl (QO.loadA ty52 (by rfl) (by repeat (first | exact List.Mem.head _ | refine List.Mem.tail _ ?_)) (by rfl) (by rfl)) ?_) | (refine RS.q rfl (QO.loadOA ty52 (by rfl) (by assumption) (by rfl)) ?_)
      refine RS.q rfl (QO.move) ?_
      refine RS.call rfl (by rfl) ok100 (by rfl) (fun w ho => at1 t rate A l.length c l f _ rfl (hA.own ho) (of_bne_false hb0) hm) ?_
      intro v18 H18 h18
      have hx18 : ∃ i1 s1 e1, atR l f = (i1, s1, e1) := ⟨_, _, _, rfl⟩
      obtain ⟨i1, s1, e1, hR⟩ := hx18
      rw [hR] at h18
      have h18 : v18 = .tuple #[.agg #[iv (i1 : Nat), sv s1.reel, iv s1.frame, sv s1.back, iv s1.bf, flt s1.share], iv e1] ∧ H18 = [] := h18
      obtain ⟨rfl, rfl⟩ := h18
      refine RS.q rfl (QO.extract (by rfl) (by rfl)) ?_
      refine RS.q rfl (QO.extract (by rfl) (by rfl)) ?_
      first | refine RS.storeB ty82 (by rfl) (by rfl) (by rfl) (by rfl) (by rfl) (by repeat (first | exact Upd.head | apply Upd.tail | exact Upd.app _ Upd.head)) (by rfl) ?_ | refine RS.storeP ty82 (by rfl) (by rfl) (by rfl) (by rfl) (by rfl) (by repeat (first | exact Upd.head | apply Upd.tail | exact Upd.app _ Upd.head)) (by rfl) ?_
      refine RS.q rfl (QO.assign) ?_
      refine RS.nil ?_
      refine thenC_n ?_
      refine CS.ret ?_
      refine retQ.mk (H' := []) (.inr rfl) (RVs.cellA ty82 (by rfl) (by repeat (first | exact List.Mem.head _ | refine List.Mem.tail _ ?_)) (by rfl) (RVs.tmp (by rfl) RVs.nil)) (List.nil_sublist _) ?_
      rw [atX_ok (of_bne_false hb0), atF_p (by assumption), hR]
      exact ⟨rfl, rfl⟩

set_option maxHeartbeats 16000000 in
set_option maxRecDepth 100000 in
theorem ratN (t : List UInt8) (rate : Int) (A : Option Addr) (c : Nat) (l : List Ev) (f : Int) (W : World) (ht : t.length ≤ maxLen) (hA : ES W A l) (hr : ∀ e ∈ l, e.reel.length ≤ maxLen) (hm : l.length ≤ maxLen) (hn : f < 0) : Fn_ Tryd.prog 44 #[.agg #[sv t, iv rate, .slice A l.length c], iv f] W (fun v H => v = atV (0, Sh.z, 3) ∧ H = []) := by
  refine Fn_.intro Tryd.func44 rfl rfl (by rfl) ?_
  refine CS.seq ?_
  refine CS.region ?_
  refine RS.box rfl (by rfl) (by rfl) ?_
  intro g2
  refine RS.alloc rfl ty82 ?_
  intro g4
  refine RS.q rfl (QO.assign) ?_
  refine RS.nil ?_
  refine thenC_n ?_
  refine CS.seq ?_
  refine CS.seq ?_
  refine CS.region ?_
  refine RS.q rfl (QO.move) ?_
  refine RS.q rfl (QO.lss (by rfl) (by rfl)) ?_
  refine RS.nil ?_
  refine thenC_n ?_
  refine CS.condT (by rfl) (decide_eq_true hn) ?_
  refine CS.seq ?_
  refine CS.region ?_
  refine RS.q rfl (QO.build ty82 pl82 (by rfl)) ?_
  first | refine RS.storeB ty82 (by rfl) (by rfl) (by rfl) (by rfl) (by rfl) (by repeat (first | exact Upd.head | apply Upd.tail | exact Upd.app _ Upd.head)) (by rfl) ?_ | refine RS.storeP ty82 (by rfl) (by rfl) (by rfl) (by rfl) (by rfl) (by repeat (first | exact Upd.head | apply Upd.tail | exact Upd.app _ Upd.head)) (by rfl) ?_
  refine RS.q rfl (QO.assign) ?_
  refine RS.nil ?_
  refine thenC_n ?_
  refine CS.ret ?_
  refine thenC_r ?_
  refine retQ.mk (H' := []) (.inr rfl) (RVs.cellA ty82 (by rfl) (by repeat (first | exact List.Mem.head _ | refine List.Mem.tail _ ?_)) (by rfl) (RVs.tmp (by rfl) RVs.nil)) (List.nil_sublist _) ?_
  exact ⟨rfl, rfl⟩

theorem ratF (t : List UInt8) (rate : Int) (A : Option Addr) (c : Nat) (l : List Ev) (f : Int) (W : World) (ht : t.length ≤ maxLen) (hA : ES W A l) (hr : ∀ e ∈ l, e.reel.length ≤ maxLen) (hm : l.length ≤ maxLen) (hE : edE t rate l = 0) : Fn_ Tryd.prog 44 #[.agg #[sv t, iv rate, .slice A l.length c], iv f] W (fun v H => v = atV (atF l f) ∧ H = []) := by
  by_cases h : f < 0
  · rw [atF_n h]; exact ratN t rate A c l f W ht hA hr hm h
  · rw [atF_p h]; exact rat1 t rate A l.length c l f W rfl hA hE hm (by omega)

set_option maxRecDepth 100000 in
theorem equalP (A A2 : Option Addr) (c c2 : Nat) (m : List Pl) (W : World) (hA : PS W A m) (hA2 : PS W A2 m) (hm : m.length ≤ maxLen) : Fn_ Tryd.prog 49 #[.slice A m.length c, .slice A2 m.length c2] W (fun v H => v = .bool true ∧ H = []) := by
  unfold maxLen at hm
  refine Fn_.intro Tryd.func49 rfl rfl (by rfl) ?_
  refine CS.seq ?_
  refine CS.region ?_
  refine RS.q rfl (QO.assign) ?_
  refine RS.nil ?_
  refine thenC_n ?_
  refine CS.seq ?_
  refine CS.seq ?_
  refine CS.region ?_
  refine RS.q rfl (QO.move) ?_
  refine RS.q rfl (QO.lenS Tryd.underlying86 (by rfl)) ?_
  refine RS.q rfl (QO.move) ?_
  refine RS.q rfl (QO.lenS Tryd.underlying86 (by rfl)) ?_
  refine RS.q rfl (QO.neq (by rfl) (by rfl)) ?_
  refine RS.nil ?_
  refine thenC_n ?_
  refine CS.condF (by rfl) (bne_self_eq_false _) ?_
  refine CS.skip ?_
  refine thenC_n ?_
  refine CS.seq ?_
  refine CS.seq ?_
  refine CS.region ?_
  refine RS.q rfl (QO.move) ?_
  refine RS.q rfl (QO.lenS Tryd.underlying86 (by rfl)) ?_
  refine RS.q rfl (QO.move) ?_
  refine RS.nil ?_
  refine thenC_n ?_
  refine CS.block ?_
  refine CS.loop (X := Nat) (4 :: 5 :: 13 :: 14 :: 15 :: 16 :: 17 :: 18 :: 19 :: 20 :: 21 :: 22 :: 23 :: 24 :: 25 :: []) (fun k => [(13, iv (k : Int))]) (fun k => []) (fun k => k ≤ m.length) (fun k => m.length - k) 0 (Nat.zero_le _) ?_ ?_ ?_
  · exact (by repeat (first | exact kn_nil | refine kn_cons (by rfl) ?_))
  · exact (by repeat (first | exact List.Sublist.refl _ | exact List.nil_sublist _ | refine List.Sublist.cons_cons _ ?_ | refine List.Sublist.cons _ ?_ | exact Sbp.refl | exact Sbp.nil | refine Sbp.cons (by repeat (first | exact Rem.head | apply Rem.tail)) ?_ | exact Sbp.app | refine Sbp.skip ?_ | exact List.sublist_append_left _ _ | exact List.sublist_append_right _ _))
  · intro k gj4 hz
    have hk := hz
    refine CS.seq ?_
    refine CS.region ?_
    refine RS.q rfl (QO.lss (by rfl) (by rfl)) ?_
    refine RS.nil ?_
    refine thenC_n ?_
    refine CS.seq ?_
    refine CS.cond (by rfl) (fun hb0 => ?_) (fun hb0 => ?_)
    · have hb0p := of_decide_eq_true hb0
      refine CS.skip ?_
      refine thenC_n ?_
      refine CS.seq ?_
      refine CS.block ?_
      refine CS.seq ?_
      refine CS.region ?_
      refine RS.q rfl (QO.move) ?_
      refine RS.q rfl (QO.assign) ?_
      refine RS.nil ?_
      refine thenC_n ?_
      refine CS.seq ?_
      refine CS.draw 9 rfl (by kernel_rfl) (by kernel_rfl) ?_
      have hx1 := hA (by omega)
      obtain ⟨bA, oA, e1, hc1⟩ := hx1
      subst e1
      have hx2 := hA2 (by omega)
      obtain ⟨bB, oB, e2, hc2⟩ := hx2
      subst e2
      have hd1 := hc1 k (by omega)
      have hd2 := hc2 k (by omega)
      have hx3 : ∃ p, m.getD k default = p := ⟨_, rfl⟩
      obtain ⟨p, hp⟩ := hx3
      rw [hp] at hd1 hd2
      refine RT.take (i := 0) rfl (by kernel_rfl) rfl (QO.move) ?_
      refine RT.take (i := 1) rfl (by kernel_rfl) rfl (QO.move) ?_
      refine RT.take (i := 2) rfl (by kernel_rfl) rfl (QO.idx Tryd.underlying86 ty91 (by rfl) (by rfl) (by omega) (by omega)) ?_
      refine RT.take (i := 3) rfl (by kernel_rfl) rfl (QO.loadOA ty91 (vs := [sv p.reel, iv p.i, iv p.o]) (by rfl) hd1 (by rfl)) ?_
      refine RT.take (i := 4) rfl (by kernel_rfl) rfl (QO.move) ?_
      refine RT.take (i := 5) rfl (by kernel_rfl) rfl (QO.move) ?_
      refine RT.take (i := 6) rfl (by kernel_rfl) rfl (QO.idx Tryd.underlying86 ty91 (by rfl) (by rfl) (by omega) (by omega)) ?_
      refine RT.take (i := 7) rfl (by kernel_rfl) rfl (QO.loadOA ty91 (vs := [sv p.reel, iv p.i, iv p.o]) (by rfl) hd2 (by rfl)) ?_
      refine RT.takev (i := 8) rfl (by kernel_rfl) rfl (QO.sneqM (fdP p) (fdP p) mix91 (by rfl) (by rfl) rfl rfl) (congrArg Value.bool (fdP_self p)) ?_
      refine RT.done (by kernel_rfl) ?_
      refine thenC_n ?_
      refine CS.condF (by rfl) rfl ?_
      refine CS.skip ?_
      refine blockC_n ?_
      refine thenC_n ?_
      refine CS.region ?_
      first | (refine RS.q rfl (QO.add (by rfl) (by rfl) (by omega) (by omega)) ?_) | (refine RS.q rfl (QO.ibin (by rfl) (by rfl) trivial) ?_)
      refine RS.q rfl (QO.move) ?_
      refine RS.nil ?_
      refine loopQ_n (by intro t ht; repeat (first | with_reducible exact rfl | exact frame_puts ht (frame_mix ht) _ rfl | (refine frame_put rfl ht ?_) | (refine frame_puts ht ?_ _ rfl) | exact frame_mix ht | (refine frame_mix2 rfl ht ?_) | exact rfl)) ?_
      exact ⟨k + 1, by omega, by omega, (by repeat (first | exact kn_nil | refine kn_cons (by rfl) ?_)), (by repeat (first | exact List.Sublist.refl _ | exact List.nil_sublist _ | refine List.Sublist.cons_cons _ ?_ | refine List.Sublist.cons _ ?_ | exact Sbp.refl | exact Sbp.nil | refine Sbp.cons (by repeat (first | exact Rem.head | apply Rem.tail)) ?_ | exact Sbp.app | refine Sbp.skip ?_ | exact List.sublist_append_left _ _ | exact List.sublist_append_right _ _))⟩
    · have hb0p := of_decide_eq_false hb0
      refine CS.exit ?_
      refine thenC_x ?_
      refine loopQ_x ?_
      refine blockC_x ?_
      refine thenC_n ?_
      refine CS.seq ?_
      refine CS.region ?_
      refine RS.q rfl (QO.assign) ?_
      refine RS.nil ?_
      refine thenC_n ?_
      refine CS.ret ?_
      refine retQ.mk (H' := []) (.inr rfl) (RVs.tmp (by rfl) RVs.nil) (List.nil_sublist _) ?_
      exact ⟨rfl, rfl⟩

set_option maxRecDepth 100000 in
theorem inP1 (p : Pl) (r : List UInt8) (n : Int) (g1 g2 : Nat) (W : World) (h1 : W.cell? ⟨g1, 0, none⟩ = some (sv r)) (h2 : W.cell? ⟨g2, 0, none⟩ = some (iv n)) : Fn_ Tryd.prog 52 #[.agg #[sv p.reel, iv p.i, iv p.o], .pointer (some ⟨g1, 0, none⟩), .pointer (some ⟨g2, 0, none⟩)] W (fun v H => v = .bool (inP p r n) ∧ H = []) := by
  refine Fn_.intro Tryd.func52 rfl rfl (by rfl) ?_
  refine CS.seq ?_
  refine CS.region ?_
  refine RS.box rfl (by rfl) (by rfl) ?_
  intro g3
  refine RS.q rfl (QO.assign) ?_
  refine RS.nil ?_
  refine thenC_n ?_
  refine CS.seq ?_
  refine CS.region ?_
  refine RS.q rfl (QO.fieldAddr fo91_0 (by rfl)) ?_
  first | (refine RS.q rfl (QO.load ty9 (by rfl) (by repeat (first | exact List.Mem.head _ | refine List.Mem.tail _ ?_)) (by rfl)) ?_) | (refine RS.q rfl (QO.loadO ty9 (by rfl) (by assumption)) ?_) | (refine RS.q rfl (QO.load ty9 (by rfl) (by repeat (first | exact List.Mem.head _ | refine List.Mem.tail _ ?_)) (by assumption)) ?_)
  refine RS.q rfl (QO.loadO ty9 (by rfl) h1) ?_
  refine RS.q rfl (QO.streq (by rfl) (by rfl)) ?_
  refine RS.q rfl (QO.move) ?_
  refine RS.split (dj := 9) (by rfl) (fun hb0 => ?_) (fun hb0 => ?_)
  · refine RS.on (dj := 9) rfl (congrArg Value.bool hb0) ?_
    refine RS.q rfl (QO.loadO ty3 (by rfl) h2) ?_
    refine RS.on (dj := 9) rfl (congrArg Value.bool hb0) ?_
    refine RS.q rfl (QO.fieldAddr fo91_1 (by rfl)) ?_
    refine RS.on (dj := 9) rfl (congrArg Value.bool hb0) ?_
    first | (refine RS.q rfl (QO.load ty3 (by rfl) (by repeat (first | exact List.Mem.head _ | refine List.Mem.tail _ ?_)) (by rfl)) ?_) | (refine RS.q rfl (QO.loadO ty3 (by rfl) (by assumption)) ?_) | (refine RS.q rfl (QO.load ty3 (by rfl) (by repeat (first | exact List.Mem.head _ | refine List.Mem.tail _ ?_)) (by assumption)) ?_)
    refine RS.on (dj := 9) rfl (congrArg Value.bool hb0) ?_
    refine RS.q rfl (QO.geq (by rfl) (by rfl)) ?_
    refine RS.q rfl (QO.pickT (by rfl) hb0 (by rfl)) ?_
    refine RS.q rfl (QO.move) ?_
    refine RS.split (dj := 15) (by rfl) (fun hb1 => ?_) (fun hb1 => ?_)
    · have hb1p := of_decide_eq_true hb1
      refine RS.on (dj := 15) rfl (congrArg Value.bool hb1) ?_
      refine RS.q rfl (QO.loadO ty3 (by rfl) h2) ?_
      refine RS.on (dj := 15) rfl (congrArg Value.bool hb1) ?_
      refine RS.q rfl (QO.fieldAddr fo91_2 (by rfl)) ?_
      refine RS.on (dj := 15) rfl (congrArg Value.bool hb1) ?_
      first | (refine RS.q rfl (QO.load ty3 (by rfl) (by repeat (first | exact List.Mem.head _ | refine List.Mem.tail _ ?_)) (by rfl)) ?_) | (refine RS.q rfl (QO.loadO ty3 (by rfl) (by assumption)) ?_) | (refine RS.q rfl (QO.load ty3 (by rfl) (by repeat (first | exact List.Mem.head _ | refine List.Mem.tail _ ?_)) (by assumption)) ?_)
      refine RS.on (dj := 15) rfl (congrArg Value.bool hb1) ?_
      refine RS.q rfl (QO.lss (by rfl) (by rfl)) ?_
      refine RS.q rfl (QO.pickT (by rfl) hb1 (by rfl)) ?_
      refine RS.q rfl (QO.assign) ?_
      refine RS.nil ?_
      refine thenC_n ?_
      refine CS.ret ?_
      refine retQ.mk (H' := []) (.inr rfl) (RVs.tmp (by rfl) RVs.nil) (List.nil_sublist _) ?_
      refine ⟨congrArg Value.bool ?_, rfl⟩
      unfold inP
      first | (simp_all; done) | (simp_all; omega)
    · have hb1p := of_decide_eq_false hb1
      refine RS.off (dj := 15) rfl (.inl (congrArg Value.bool hb1)) (fun _ => rfl) rfl ?_
      refine RS.off (dj := 15) rfl (.inl (congrArg Value.bool hb1)) (fun _ => rfl) rfl ?_
      refine RS.off (dj := 15) rfl (.inl (congrArg Value.bool hb1)) (fun _ => rfl) rfl ?_
      refine RS.off (dj := 15) rfl (.inl (congrArg Value.bool hb1)) (fun _ => rfl) rfl ?_
      refine RS.q rfl (QO.pickF (by rfl) hb1 (by rfl)) ?_
      refine RS.q rfl (QO.assign) ?_
      refine RS.nil ?_
      refine thenC_n ?_
      refine CS.ret ?_
      refine retQ.mk (H' := []) (.inr rfl) (RVs.tmp (by rfl) RVs.nil) (List.nil_sublist _) ?_
      refine ⟨congrArg Value.bool ?_, rfl⟩
      unfold inP
      first | (simp_all; done) | (simp_all; omega)
  · refine RS.off (dj := 9) rfl (.inl (congrArg Value.bool hb0)) (fun _ => rfl) rfl ?_
    refine RS.off (dj := 9) rfl (.inl (congrArg Value.bool hb0)) (fun _ => rfl) rfl ?_
    refine RS.off (dj := 9) rfl (.inl (congrArg Value.bool hb0)) (fun _ => rfl) rfl ?_
    refine RS.off (dj := 9) rfl (.inl (congrArg Value.bool hb0)) (fun _ => rfl) rfl ?_
    refine RS.q rfl (QO.pickF (by rfl) hb0 (by rfl)) ?_
    refine RS.q rfl (QO.move) ?_
    refine RS.off (dj := 15) rfl (.inl (congrArg Value.bool rfl)) (fun _ => rfl) rfl ?_
    refine RS.off (dj := 15) rfl (.inl (congrArg Value.bool rfl)) (fun _ => rfl) rfl ?_
    refine RS.off (dj := 15) rfl (.inl (congrArg Value.bool rfl)) (fun _ => rfl) rfl ?_
    refine RS.off (dj := 15) rfl (.inl (congrArg Value.bool rfl)) (fun _ => rfl) rfl ?_
    refine RS.q rfl (QO.pickF (by rfl) rfl (by rfl)) ?_
    refine RS.q rfl (QO.assign) ?_
    refine RS.nil ?_
    refine thenC_n ?_
    refine CS.ret ?_
    refine retQ.mk (H' := []) (.inr rfl) (RVs.tmp (by rfl) RVs.nil) (List.nil_sublist _) ?_
    refine ⟨congrArg Value.bool ?_, rfl⟩
    unfold inP
    first | (simp_all; done) | (simp_all; omega)

set_option maxRecDepth 100000 in
theorem indexP (A : Option Addr) (c : Nat) (m : List Pl) (r : List UInt8) (n : Int) (g1 g2 : Nat) (W : World) (hA : PS W A m) (hm : m.length ≤ maxLen) (h1 : W.cell? ⟨g1, 0, none⟩ = some (sv r)) (h2 : W.cell? ⟨g2, 0, none⟩ = some (iv n)) : Fn_ Tryd.prog 114 #[.slice A m.length c, .func (.func 52) #[] #[.pointer (some ⟨g1, 0, none⟩), .pointer (some ⟨g2, 0, none⟩)]] W (fun v H => ∃ q : Int, v = iv q ∧ decide (0 ≤ q) = anyP m r n ∧ H = []) := by
  unfold maxLen at hm
  refine Fn_.intro Tryd.func114 rfl rfl (by rfl) ?_
  refine CS.seq ?_
  refine CS.region ?_
  refine RS.q rfl (QO.assign) ?_
  refine RS.nil ?_
  refine thenC_n ?_
  refine CS.seq ?_
  refine CS.seq ?_
  refine CS.region ?_
  refine RS.q rfl (QO.move) ?_
  refine RS.q rfl (QO.lenS Tryd.underlying86 (by rfl)) ?_
  refine RS.q rfl (QO.move) ?_
  refine RS.nil ?_
  refine thenC_n ?_
  refine CS.block ?_
  refine CS.loop (X := Nat) (4 :: 5 :: 8 :: 9 :: 10 :: 11 :: 12 :: 13 :: 14 :: 15 :: 16 :: 17 :: 18 :: []) (fun k => [(8, iv (k : Int))]) (fun k => []) (fun k => k ≤ m.length ∧ ∀ i, i < k → inP (m.getD i default) r n = false) (fun k => m.length - k) 0 ⟨Nat.zero_le _, fun i h => absurd h (Nat.not_lt_zero _)⟩ ?_ ?_ ?_
  · exact (by repeat (first | exact kn_nil | refine kn_cons (by rfl) ?_))
  · exact (by repeat (first | exact List.Sublist.refl _ | exact List.nil_sublist _ | refine List.Sublist.cons_cons _ ?_ | refine List.Sublist.cons _ ?_ | exact Sbp.refl | exact Sbp.nil | refine Sbp.cons (by repeat (first | exact Rem.head | apply Rem.tail)) ?_ | exact Sbp.app | refine Sbp.skip ?_ | exact List.sublist_append_left _ _ | exact List.sublist_append_right _ _))
  · intro k gj2 hz
    obtain ⟨hk, hno⟩ := hz
    refine CS.seq ?_
    refine CS.region ?_
    refine RS.q rfl (QO.lss (by rfl) (by rfl)) ?_
    refine RS.nil ?_
    refine thenC_n ?_
    refine CS.seq ?_
    refine CS.cond (by rfl) (fun hb0 => ?_) (fun hb0 => ?_)
    · have hb0p := of_decide_eq_true hb0
      refine CS.skip ?_
      refine thenC_n ?_
      refine CS.seq ?_
      refine CS.block ?_
      refine CS.seq ?_
      refine CS.region ?_
      refine RS.q rfl (QO.move) ?_
      refine RS.q rfl (QO.assign) ?_
      refine RS.nil ?_
      refine thenC_n ?_
      refine CS.seq ?_
      refine CS.region ?_
      refine RS.q rfl (QO.move) ?_
      have hx1 := hA (by omega)
      obtain ⟨bA, oA, e1, hc1⟩ := hx1
      subst e1
      have hd1 := hc1 k (by omega)
      have hx3 : ∃ p, m.getD k default = p := ⟨_, rfl⟩
      obtain ⟨p, hp⟩ := hx3
      rw [hp] at hd1
      refine RS.q rfl (QO.move) ?_
      refine RS.q rfl (QO.move) ?_
      refine RS.q rfl (QO.idx Tryd.underlying86 ty91 (by rfl) (by rfl) (by omega) (by omega)) ?_
      refine RS.q rfl (QO.loadOA ty91 (vs := [sv p.reel, iv p.i, iv p.o]) (by rfl) hd1 (by rfl)) ?_
      refine RS.call rfl (by rfl) ok52 (by rfl) (fun w ho => inP1 p r n g1 g2 _ (ho.old h1) (ho.old h2)) ?_
      rintro _ _ ⟨rfl, rfl⟩
      refine RS.nil ?_
      refine thenC_n ?_
      refine CS.cond (by rfl) (fun hb1 => ?_) (fun hb1 => ?_)
      · refine CS.seq ?_
        refine CS.region ?_
        refine RS.q rfl (QO.move) ?_
        refine RS.q rfl (QO.assign) ?_
        refine RS.nil ?_
        refine thenC_n ?_
        refine CS.ret ?_
        refine blockC_r ?_
        refine thenC_r ?_
        refine loopQ_r ?_
        refine blockC_r ?_
        refine thenC_r ?_
        refine retQ.mk (H' := []) (.inr rfl) (RVs.tmp (by rfl) RVs.nil) (List.nil_sublist _) ?_
        first | exact ⟨_, rfl, (decide_eq_true (by omega)).trans (anyP_T (k := k) (by omega) (by rw [hp]; assumption)).symm, rfl⟩ | exact ⟨_, rfl, (decide_eq_false (by omega)).trans (anyP_F (fun i hi => hno i (by omega))).symm, rfl⟩
      · refine CS.skip ?_
        refine blockC_n ?_
        refine thenC_n ?_
        refine CS.region ?_
        first | (refine RS.q rfl (QO.add (by rfl) (by rfl) (by omega) (by omega)) ?_) | (refine RS.q rfl (QO.ibin (by rfl) (by rfl) trivial) ?_)
        refine RS.q rfl (QO.move) ?_
        refine RS.nil ?_
        refine loopQ_n (by intro t ht; repeat (first | with_reducible exact rfl | exact frame_puts ht (frame_mix ht) _ rfl | (refine frame_put rfl ht ?_) | (refine frame_puts ht ?_ _ rfl) | exact frame_mix ht | (refine frame_mix2 rfl ht ?_) | exact rfl)) ?_
        exact ⟨k + 1, ⟨by omega, fun i hi => by
            by_cases e : i = k
            · subst e; rw [hp]; assumption
            · exact hno i (by omega)⟩, by omega, (by repeat (first | exact kn_nil | refine kn_cons (by rfl) ?_)), (by repeat (first | exact List.Sublist.refl _ | exact List.nil_sublist _ | refine List.Sublist.cons_cons _ ?_ | refine List.Sublist.cons _ ?_ | exact Sbp.refl | exact Sbp.nil | refine Sbp.cons (by repeat (first | exact Rem.head | apply Rem.tail)) ?_ | exact Sbp.app | refine Sbp.skip ?_ | exact List.sublist_append_left _ _ | exact List.sublist_append_right _ _))⟩
    · have hb0p := of_decide_eq_false hb0
      refine CS.exit ?_
      refine thenC_x ?_
      refine loopQ_x ?_
      refine blockC_x ?_
      refine thenC_n ?_
      refine CS.seq ?_
      refine CS.region ?_
      refine RS.q rfl (QO.assign) ?_
      refine RS.nil ?_
      refine thenC_n ?_
      refine CS.ret ?_
      refine retQ.mk (H' := []) (.inr rfl) (RVs.tmp (by rfl) RVs.nil) (List.nil_sublist _) ?_
      first | exact ⟨_, rfl, (decide_eq_true (by omega)).trans (anyP_T (k := k) (by omega) (by rw [hp]; assumption)).symm, rfl⟩ | exact ⟨_, rfl, (decide_eq_false (by omega)).trans (anyP_F (fun i hi => hno i (by omega))).symm, rfl⟩

set_option maxRecDepth 100000 in
theorem containsP (A : Option Addr) (c : Nat) (m : List Pl) (r : List UInt8) (n : Int) (g1 g2 : Nat) (W : World) (hA : PS W A m) (hm : m.length ≤ maxLen) (h1 : W.cell? ⟨g1, 0, none⟩ = some (sv r)) (h2 : W.cell? ⟨g2, 0, none⟩ = some (iv n)) : Fn_ Tryd.prog 51 #[.slice A m.length c, .func (.func 52) #[] #[.pointer (some ⟨g1, 0, none⟩), .pointer (some ⟨g2, 0, none⟩)]] W (fun v H => v = .bool (anyP m r n) ∧ H = []) := by
  refine Fn_.intro Tryd.func51 rfl rfl (by rfl) ?_
  refine CS.seq ?_
  refine CS.region ?_
  refine RS.q rfl (QO.assign) ?_
  refine RS.nil ?_
  refine thenC_n ?_
  refine CS.seq ?_
  refine CS.region ?_
  refine RS.q rfl (QO.move) ?_
  refine RS.q rfl (QO.move) ?_
  refine RS.call rfl (by rfl) ok114 (by rfl) (fun w ho => indexP A c m r n g1 g2 _ (hA.own ho) hm (ho.old h1) (ho.old h2)) ?_
  rintro _ _ ⟨q, rfl, hq, rfl⟩
  refine RS.q rfl (QO.geq (by rfl) (by rfl)) ?_
  refine RS.q rfl (QO.assign) ?_
  refine RS.nil ?_
  refine thenC_n ?_
  refine CS.ret ?_
  refine retQ.mk (H' := []) (.inr rfl) (RVs.tmp (by rfl) RVs.nil) (List.nil_sublist _) ?_
  exact ⟨congrArg Value.bool hq, rfl⟩

set_option maxRecDepth 100000 in
theorem hasP (A : Option Addr) (c : Nat) (m : List Pl) (r : List UInt8) (n : Int) (g : Nat) (W : World) (hA : PS W A m) (hm : m.length ≤ maxLen) (hc : W.cell? ⟨g, 0, none⟩ = some (.slice A m.length c)) : Fn_ Tryd.prog 50 #[sv r, iv n, .pointer (some ⟨g, 0, none⟩)] W (fun v H => v = .bool (anyP m r n) ∧ H = []) := by
  refine Fn_.intro Tryd.func50 rfl rfl (by rfl) ?_
  refine CS.seq ?_
  refine CS.region ?_
  refine RS.box rfl (by rfl) (by rfl) ?_
  intro g3
  refine RS.box rfl (by rfl) (by rfl) ?_
  intro g4
  refine RS.q rfl (QO.assign) ?_
  refine RS.nil ?_
  refine thenC_n ?_
  refine CS.seq ?_
  refine CS.region ?_
  refine RS.q rfl (QO.loadO ty86 (by rfl) hc) ?_
  refine RS.q rfl (QO.makeFunc) ?_
  refine RS.call rfl (by rfl) ok51 (by rfl) (fun w ho => containsP A c m r n g3 g4 _ (hA.own ho) hm (ho.cellG (g := g3) (by repeat (first | exact List.Mem.head _ | refine List.Mem.tail _ ?_)) rfl) (ho.cellG (g := g4) (by repeat (first | exact List.Mem.head _ | refine List.Mem.tail _ ?_)) rfl)) ?_
  rintro _ _ ⟨rfl, rfl⟩
  refine RS.q rfl (QO.assign) ?_
  refine RS.nil ?_
  refine thenC_n ?_
  refine CS.ret ?_
  refine retQ.mk (H' := []) (.inr rfl) (RVs.tmp (by rfl) RVs.nil) (List.nil_sublist _) ?_
  exact ⟨rfl, rfl⟩

set_option maxHeartbeats 16000000 in
set_option maxRecDepth 100000 in
theorem editsMatch (t : List UInt8) (rate : Int) (A : Option Addr) (c : Nat) (l : List Ev) (f hd : Int) (W : World) (ht : t.length ≤ maxLen) (hA : ES W A l) (hr : ∀ e ∈ l, e.reel.length ≤ maxLen) (hm : l.length ≤ maxLen) : Fn_ Tryd.prog 8 #[.agg #[sv t, iv rate, .slice A l.length c], iv f, iv hd] W (fun v H => v = .bool true ∧ H = []) := by
  refine Fn_.intro Tryd.func8 rfl rfl (by rfl) ?_
  refine CS.seq ?_
  refine CS.region ?_
  refine RS.box rfl (by rfl) (by rfl) ?_
  intro g3
  refine RS.q rfl (QO.assign) ?_
  refine RS.nil ?_
  refine thenC_n ?_
  refine CS.seq ?_
  refine CS.seq ?_
  refine CS.region ?_
  refine RS.call rfl (by rfl) ok11 (by rfl) (fun w ho => landed _) ?_
  rintro _ _ ⟨rfl, rfl⟩
  refine RS.q rfl (QO.not (by rfl)) ?_
  refine RS.nil ?_
  refine thenC_n ?_
  refine CS.condF (by rfl) rfl ?_
  refine CS.skip ?_
  refine thenC_n ?_
  refine CS.seq ?_
  refine CS.region ?_
  first | (refine RS.q rfl (QO.loadB ty52 (by rfl) (by repeat (first | exact List.Mem.head _ | refine List.Mem.tail _ ?_)) (by rfl)) ?_) | (refine RS.q rfl (QO.loadA ty52 (by rfl) (by repeat (first | exact List.Mem.head _ | refine List.Mem.tail _ ?_)) (by rfl) (by rfl)) ?_) | (refine RS.q rfl (QO.loadOA ty52 (by rfl) (by assumption) (by rfl)) ?_)
  refine RS.call rfl (by rfl) ok39 (by rfl) (fun w ho => editsError t rate A l.length c l _ ht rfl (hA.own ho) hr hm) ?_
  rintro _ _ ⟨rfl, rfl⟩
  refine RS.q rfl (QO.assign) ?_
  refine RS.nil ?_
  refine thenC_n ?_
  refine CS.seq ?_
  by_cases hsp4 : edE t rate l = 0
  · refine CS.region ?_
    first | (refine RS.q rfl (QO.loadB ty52 (by rfl) (by repeat (first | exact List.Mem.head _ | refine List.Mem.tail _ ?_)) (by rfl)) ?_) | (refine RS.q rfl (QO.loadA ty52 (by rfl) (by repeat (first | exact List.Mem.head _ | refine List.Mem.tail _ ?_)) (by rfl) (by rfl)) ?_) | (refine RS.q rfl (QO.loadOA ty52 (by rfl) (by assumption) (by rfl)) ?_)
    refine RS.q rfl (QO.move) ?_
    refine RS.call rfl (by rfl) ok45 (by rfl) (fun w ho => atA t rate A c l f _ ht (hA.own ho) hr hm) ?_
    intro v24 H24 h24
    rw [atX_ok hsp4] at h24
    have hn24 := atF_num hsp4 f
    have hx24 : ∃ i1 s1 e1, atF l f = (i1, s1, e1) := ⟨_, _, _, rfl⟩
    obtain ⟨i1, s1, e1, hR⟩ := hx24
    rw [hR] at h24 hn24
    have h24 : v24 = .tuple #[.agg #[iv (i1 : Nat), sv s1.reel, iv s1.frame, sv s1.back, iv s1.bf, flt s1.share], iv e1] ∧ H24 = [] := h24
    obtain ⟨rfl, rfl⟩ := h24
    refine RS.q rfl (QO.move) ?_
    refine RS.q rfl (QO.extract (by rfl) (by rfl)) ?_
    refine RS.q rfl (QO.extract (by rfl) (by rfl)) ?_
    refine RS.alloc rfl ty82 ?_
    intro g8
    first | refine RS.storeB ty82 (by rfl) (by rfl) (by rfl) (by rfl) (by rfl) (by repeat (first | exact Upd.head | apply Upd.tail | exact Upd.app _ Upd.head)) (by rfl) ?_ | refine RS.storeP ty82 (by rfl) (by rfl) (by rfl) (by rfl) (by rfl) (by repeat (first | exact Upd.head | apply Upd.tail | exact Upd.app _ Upd.head)) (by rfl) ?_
    refine RS.q rfl (QO.assign) ?_
    refine RS.nil ?_
    refine thenC_n ?_
    refine CS.seq ?_
    refine CS.region ?_
    first | (refine RS.q rfl (QO.loadB ty52 (by rfl) (by repeat (first | exact List.Mem.head _ | refine List.Mem.tail _ ?_)) (by rfl)) ?_) | (refine RS.q rfl (QO.loadA ty52 (by rfl) (by repeat (first | exact List.Mem.head _ | refine List.Mem.tail _ ?_)) (by rfl) (by rfl)) ?_) | (refine RS.q rfl (QO.loadOA ty52 (by rfl) (by assumption) (by rfl)) ?_)
    refine RS.q rfl (QO.move) ?_
    refine RS.call rfl (by rfl) ok46 (by rfl) (fun w ho => sources_ t rate A c l hd _ ht (hA.own ho) hr hm) ?_
    rintro v30 H30 ⟨vs30, m30, rfl, hrow30, hbad30, hok30⟩
    have hy30 := hrow30.pl
    obtain ⟨A30, c30, hv30, hl30, hPS30⟩ := hy30
    subst hv30
    refine RS.sbpw (H2 := ⟨g8, 82, [iv (i1 : Nat), sv s1.reel, iv s1.frame, sv s1.back, iv s1.bf, flt s1.share]⟩ :: ⟨g3, 52, [sv t, iv rate, .slice A l.length c]⟩ :: (H30 ++ [])) (sbp_sw [⟨g8, 82, [iv (i1 : Nat), sv s1.reel, iv s1.frame, sv s1.back, iv s1.bf, flt s1.share]⟩, ⟨g3, 52, [sv t, iv rate, .slice A l.length c]⟩] _ _) ?_
    refine RS.q rfl (QO.move) ?_
    refine RS.q rfl (QO.extract (by rfl) (by rfl)) ?_
    refine RS.q rfl (QO.extract (by rfl) (by rfl)) ?_
    refine RS.alloc rfl ty86 ?_
    intro g10
    refine RS.store1 ty86 rfl (by rfl) (by rfl) (by rfl) (by repeat (first | exact Upd.head | apply Upd.tail | exact Upd.app _ Upd.head)) (by first | (simp; done) | (simp; omega) | omega) ?_
    refine RS.q rfl (QO.assign) ?_
    refine RS.nil ?_
    refine thenC_n ?_
    refine CS.seq ?_
    refine CS.seq ?_
    refine CS.region ?_
    first | (refine RS.q rfl (QO.loadB ty52 (by rfl) (by repeat (first | exact List.Mem.head _ | refine List.Mem.tail _ ?_)) (by rfl)) ?_) | (refine RS.q rfl (QO.loadA ty52 (by rfl) (by repeat (first | exact List.Mem.head _ | refine List.Mem.tail _ ?_)) (by rfl) (by rfl)) ?_) | (refine RS.q rfl (QO.loadOA ty52 (by rfl) (by assumption) (by rfl)) ?_)
    refine RS.call rfl (by rfl) ok47 (by rfl) (fun w ho => checkList t rate A l.length c l _ ht rfl (hA.own ho) hr hm) ?_
    rintro _ _ ⟨rfl, rfl⟩
    refine RS.q rfl (QO.move) ?_
    refine RS.q rfl (QO.neq (by rfl) (by rfl)) ?_
    refine RS.nil ?_
    refine thenC_n ?_
    refine CS.condF (by rfl) (bne_self_eq_false _) ?_
    refine CS.skip ?_
    refine thenC_n ?_
    refine CS.seq ?_
    refine CS.seq ?_
    refine CS.region ?_
    refine RS.q rfl (QO.move) ?_
    refine RS.q rfl (QO.neq (by rfl) (by rfl)) ?_
    refine RS.nil ?_
    refine thenC_n ?_
    refine CS.condF (by rfl) (by rw [hsp4]; rfl) ?_
    refine CS.skip ?_
    refine thenC_n ?_
    refine CS.seq ?_
    refine CS.region ?_
    first | (refine RS.q rfl (QO.loadB ty52 (by rfl) (by repeat (first | exact List.Mem.head _ | refine List.Mem.tail _ ?_)) (by rfl)) ?_) | (refine RS.q rfl (QO.loadA ty52 (by rfl) (by repeat (first | exact List.Mem.head _ | refine List.Mem.tail _ ?_)) (by rfl) (by rfl)) ?_) | (refine RS.q rfl (QO.loadOA ty52 (by rfl) (by assumption) (by rfl)) ?_)
    refine RS.q rfl (QO.move) ?_
    refine RS.call rfl (by rfl) ok44 (by rfl) (fun w ho => ratF t rate A c l f _ ht (hA.own ho) hr hm hsp4) ?_
    intro v60 H60 h60
    rw [hR] at h60
    have h60 : v60 = .tuple #[.agg #[iv (i1 : Nat), sv s1.reel, iv s1.frame, sv s1.back, iv s1.bf, flt s1.share], iv e1] ∧ H60 = [] := h60
    obtain ⟨rfl, rfl⟩ := h60
    refine RS.q rfl (QO.move) ?_
    refine RS.q rfl (QO.extract (by rfl) (by rfl)) ?_
    refine RS.q rfl (QO.extract (by rfl) (by rfl)) ?_
    refine RS.alloc rfl ty82 ?_
    intro g12
    first | refine RS.storeB ty82 (by rfl) (by rfl) (by rfl) (by rfl) (by rfl) (by repeat (first | exact Upd.head | apply Upd.tail | exact Upd.app _ Upd.head)) (by rfl) ?_ | refine RS.storeP ty82 (by rfl) (by rfl) (by rfl) (by rfl) (by rfl) (by repeat (first | exact Upd.head | apply Upd.tail | exact Upd.app _ Upd.head)) (by rfl) ?_
    refine RS.q rfl (QO.assign) ?_
    refine RS.nil ?_
    refine thenC_n ?_
    refine CS.seq ?_
    refine CS.region ?_
    first | (refine RS.q rfl (QO.loadB ty52 (by rfl) (by repeat (first | exact List.Mem.head _ | refine List.Mem.tail _ ?_)) (by rfl)) ?_) | (refine RS.q rfl (QO.loadA ty52 (by rfl) (by repeat (first | exact List.Mem.head _ | refine List.Mem.tail _ ?_)) (by rfl) (by rfl)) ?_) | (refine RS.q rfl (QO.loadOA ty52 (by rfl) (by assumption) (by rfl)) ?_)
    refine RS.q rfl (QO.move) ?_
    refine RS.call rfl (by rfl) ok48 (by rfl) (fun w ho => rsources t rate A c l hd _ ht (hA.own ho) hr hm hsp4) ?_
    rintro v66 H66 ⟨vs66, m66, rfl, hrow66, hbad66, hok66⟩
    have hms := src_same hsp4 hbad30 hok30 hbad66 hok66
    subst hms
    have hy66 := hrow66.pl
    obtain ⟨A66, c66, hv66, hl66, hPS66⟩ := hy66
    subst hv66
    refine RS.sbpw (H2 := ⟨g12, 82, [iv (i1 : Nat), sv s1.reel, iv s1.frame, sv s1.back, iv s1.bf, flt s1.share]⟩ :: ⟨g10, 86, [.slice A30 m30.length c30]⟩ :: ⟨g8, 82, [iv (i1 : Nat), sv s1.reel, iv s1.frame, sv s1.back, iv s1.bf, flt s1.share]⟩ :: ⟨g3, 52, [sv t, iv rate, .slice A l.length c]⟩ :: (H66 ++ (H30 ++ []))) (sbp_sw [⟨g12, 82, [iv (i1 : Nat), sv s1.reel, iv s1.frame, sv s1.back, iv s1.bf, flt s1.share]⟩, ⟨g10, 86, [.slice A30 m30.length c30]⟩, ⟨g8, 82, [iv (i1 : Nat), sv s1.reel, iv s1.frame, sv s1.back, iv s1.bf, flt s1.share]⟩, ⟨g3, 52, [sv t, iv rate, .slice A l.length c]⟩] _ _) ?_
    refine RS.q rfl (QO.move) ?_
    refine RS.q rfl (QO.extract (by rfl) (by rfl)) ?_
    refine RS.q rfl (QO.extract (by rfl) (by rfl)) ?_
    refine RS.q rfl (QO.assign) ?_
    refine RS.q rfl (QO.assign) ?_
    refine RS.nil ?_
    refine thenC_n ?_
    refine CS.seq ?_
    refine CS.seq ?_
    refine CS.region ?_
    first | (refine RS.q rfl (QO.loadB ty82 (by rfl) (by repeat (first | exact List.Mem.head _ | refine List.Mem.tail _ ?_)) (by rfl)) ?_) | (refine RS.q rfl (QO.loadA ty82 (by rfl) (by repeat (first | exact List.Mem.head _ | refine List.Mem.tail _ ?_)) (by rfl) (by rfl)) ?_) | (refine RS.q rfl (QO.loadOA ty82 (by rfl) (by assumption) (by rfl)) ?_)
    first | (refine RS.q rfl (QO.loadB ty82 (by rfl) (by repeat (first | exact List.Mem.head _ | refine List.Mem.tail _ ?_)) (by rfl)) ?_) | (refine RS.q rfl (QO.loadA ty82 (by rfl) (by repeat (first | exact List.Mem.head _ | refine List.Mem.tail _ ?_)) (by rfl) (by rfl)) ?_) | (refine RS.q rfl (QO.loadOA ty82 (by rfl) (by assumption) (by rfl)) ?_)
    refine RS.qv rfl (QO.sneqM (fdI i1 s1) (fdI i1 s1) mix82 (by rfl) (by rfl) rfl rfl) (congrArg Value.bool (fdI_nself hn24)) ?_
    refine RS.q rfl (QO.move) ?_
    refine RS.on (dj := 72) rfl (congrArg Value.bool rfl) ?_
    refine RS.q rfl (QO.move) ?_
    refine RS.on (dj := 72) rfl (congrArg Value.bool rfl) ?_
    refine RS.q rfl (QO.move) ?_
    refine RS.on (dj := 72) rfl (congrArg Value.bool rfl) ?_
    refine RS.q rfl (QO.neq (by rfl) (by rfl)) ?_
    refine RS.q rfl (QO.pickF (by rfl) rfl (by rfl)) ?_
    refine RS.q rfl (QO.move) ?_
    refine RS.on (dj := 77) rfl (congrArg Value.bool (bne_self_eq_false _)) ?_
    refine RS.q rfl (QO.move) ?_
    refine RS.on (dj := 77) rfl (congrArg Value.bool (bne_self_eq_false _)) ?_
    refine RS.q rfl (QO.move) ?_
    refine RS.on (dj := 77) rfl (congrArg Value.bool (bne_self_eq_false _)) ?_
    refine RS.q rfl (QO.neq (by rfl) (by rfl)) ?_
    refine RS.q rfl (QO.pickF (by rfl) (bne_self_eq_false _) (by rfl)) ?_
    refine RS.q rfl (QO.move) ?_
    refine RS.on (dj := 82) rfl (congrArg Value.bool (bne_self_eq_false _)) ?_
    first | (refine RS.q rfl (QO.load ty86 (by rfl) (by repeat (first | exact List.Mem.head _ | refine List.Mem.tail _ ?_)) (by rfl)) ?_) | (refine RS.q rfl (QO.loadO ty86 (by rfl) (by assumption)) ?_) | (refine RS.q rfl (QO.load ty86 (by rfl) (by repeat (first | exact List.Mem.head _ | refine List.Mem.tail _ ?_)) (by assumption)) ?_)
    refine RS.on (dj := 82) rfl (congrArg Value.bool (bne_self_eq_false _)) ?_
    refine RS.q rfl (QO.move) ?_
    refine RS.on (dj := 82) rfl (congrArg Value.bool (bne_self_eq_false _)) ?_
    refine RS.call rfl (by rfl) ok49 (by rfl) (fun w ho => equalP A30 A66 c30 c66 m30 _ (hPS30 _ _ _ ho (fun b hb => by simp only [List.mem_cons, List.mem_append, hb, or_true, true_or])) (hPS66 _ _ _ ho (fun b hb => by simp only [List.mem_cons, List.mem_append, hb, or_true, true_or])) hl30) ?_
    rintro _ _ ⟨rfl, rfl⟩
    refine RS.on (dj := 82) rfl (congrArg Value.bool (bne_self_eq_false _)) ?_
    refine RS.q rfl (QO.not (by rfl)) ?_
    refine RS.q rfl (QO.pickF (by rfl) (bne_self_eq_false _) (by rfl)) ?_
    refine RS.nil ?_
    refine thenC_n ?_
    refine CS.condF (by rfl) rfl ?_
    refine CS.skip ?_
    refine thenC_n ?_
    refine CS.seq ?_
    refine CS.seq ?_
    refine CS.region ?_
    refine RS.q rfl (QO.move) ?_
    refine RS.q rfl (QO.neq (by rfl) (by rfl)) ?_
    refine RS.q rfl (QO.move) ?_
    refine RS.split (dj := 90) (by rfl) (fun hb0 => ?_) (fun hb0 => ?_)
    · have hb0p := bne_iff_ne.1 hb0
      refine RS.off (dj := 90) rfl (.inl (congrArg Value.bool hb0)) (fun _ => rfl) rfl ?_
      refine RS.off (dj := 90) rfl (.inl (congrArg Value.bool hb0)) (fun _ => rfl) rfl ?_
      refine RS.q rfl (QO.pickT (by rfl) hb0 (by rfl)) ?_
      refine RS.nil ?_
      refine thenC_n ?_
      refine CS.condT (by rfl) rfl ?_
      refine CS.seq ?_
      refine CS.region ?_
      refine RS.q rfl (QO.assign) ?_
      refine RS.nil ?_
      refine thenC_n ?_
      refine CS.ret ?_
      refine thenC_r ?_
      refine retQ.mk (H' := []) (.inr rfl) (RVs.tmp (by rfl) RVs.nil) (List.nil_sublist _) ?_
      first | exact ⟨rfl, rfl⟩ | exact ⟨congrArg Value.bool hs2, rfl⟩
    · have hb0p := of_bne_false hb0
      refine RS.on (dj := 90) rfl (congrArg Value.bool hb0) ?_
      refine RS.q rfl (QO.move) ?_
      refine RS.on (dj := 90) rfl (congrArg Value.bool hb0) ?_
      refine RS.q rfl (QO.neq (by rfl) (by rfl)) ?_
      refine RS.q rfl (QO.pickF (by rfl) hb0 (by rfl)) ?_
      refine RS.nil ?_
      refine thenC_n ?_
      refine CS.cond (by rfl) (fun hb1 => ?_) (fun hb1 => ?_)
      · have hb1p := bne_iff_ne.1 hb1
        refine CS.seq ?_
        refine CS.region ?_
        refine RS.q rfl (QO.assign) ?_
        refine RS.nil ?_
        refine thenC_n ?_
        refine CS.ret ?_
        refine thenC_r ?_
        refine retQ.mk (H' := []) (.inr rfl) (RVs.tmp (by rfl) RVs.nil) (List.nil_sublist _) ?_
        first | exact ⟨rfl, rfl⟩ | exact ⟨congrArg Value.bool hs2, rfl⟩
      · have hb1p := of_bne_false hb1
        refine CS.skip ?_
        refine thenC_n ?_
        refine CS.seq ?_
        refine CS.region ?_
        refine RS.q rfl (QO.makeFunc) ?_
        refine RS.q rfl (QO.assign) ?_
        refine RS.nil ?_
        refine thenC_n ?_
        refine CS.seq ?_
        by_cases hsp17 : s1.back = []
        · refine CS.region ?_
          have hR0 := atF_0 hR (by assumption)
          have hsz : srcE t rate l hd = 0 := by assumption
          have hd0 := srcE_rg hsz
          have hh := atR_hit hsp4 hd0.1 hd0.2 hR0
          obtain ⟨⟨hs1, hs2⟩, hp1, hp2⟩ := hh
          have hI := hok30 hsz
          have ha1 : anyP m30 s1.reel s1.frame = true := by
            obtain ⟨k, k1, k2, k3, k4⟩ := hp1
            rw [← k2]; exact anyP_of (hI.has k1 k3 k4)
          have ha2 : s1.back ≠ [] → anyP m30 s1.back s1.bf = true := fun hne => by
            rcases hp2 with h | ⟨_, k, k1, k2, k3, k4⟩
            · exact absurd h hne
            · rw [← k2]; exact anyP_of (hI.has k1 k3 k4)
          refine RS.q rfl (QO.move) ?_
          refine RS.q rfl (QO.fieldAddr fo82_1 (by rfl)) ?_
          first | (refine RS.q rfl (QO.load ty9 (by rfl) (by repeat (first | exact List.Mem.head _ | refine List.Mem.tail _ ?_)) (by rfl)) ?_) | (refine RS.q rfl (QO.loadO ty9 (by rfl) (by assumption)) ?_) | (refine RS.q rfl (QO.load ty9 (by rfl) (by repeat (first | exact List.Mem.head _ | refine List.Mem.tail _ ?_)) (by assumption)) ?_)
          refine RS.q rfl (QO.fieldAddr fo82_2 (by rfl)) ?_
          first | (refine RS.q rfl (QO.load ty3 (by rfl) (by repeat (first | exact List.Mem.head _ | refine List.Mem.tail _ ?_)) (by rfl)) ?_) | (refine RS.q rfl (QO.loadO ty3 (by rfl) (by assumption)) ?_) | (refine RS.q rfl (QO.load ty3 (by rfl) (by repeat (first | exact List.Mem.head _ | refine List.Mem.tail _ ?_)) (by assumption)) ?_)
          refine RS.call rfl (by rfl) ok50 (by rfl) (fun w ho => hasP A30 c30 m30 s1.reel s1.frame g10 _ (hPS30 _ _ _ ho (fun b hb => by simp only [List.mem_cons, List.mem_append, hb, or_true, true_or])) hl30 (ho.cellG (g := g10) (by repeat (first | exact List.Mem.head _ | refine List.Mem.tail _ ?_)) rfl)) ?_
          rintro _ _ ⟨rfl, rfl⟩
          refine RS.q rfl (QO.move) ?_
          refine RS.on (dj := 101) rfl (congrArg Value.bool ha1) ?_
          refine RS.q rfl (QO.fieldAddr fo82_3 (by rfl)) ?_
          refine RS.on (dj := 101) rfl (congrArg Value.bool ha1) ?_
          first | (refine RS.q rfl (QO.load ty9 (by rfl) (by repeat (first | exact List.Mem.head _ | refine List.Mem.tail _ ?_)) (by rfl)) ?_) | (refine RS.q rfl (QO.loadO ty9 (by rfl) (by assumption)) ?_) | (refine RS.q rfl (QO.load ty9 (by rfl) (by repeat (first | exact List.Mem.head _ | refine List.Mem.tail _ ?_)) (by assumption)) ?_)
          refine RS.on (dj := 101) rfl (congrArg Value.bool ha1) ?_
          refine RS.q rfl (QO.streq (by rfl) (by rfl)) ?_
          refine RS.on (dj := 101) rfl (congrArg Value.bool ha1) ?_
          refine RS.q rfl (QO.move) ?_
          refine RS.off (dj := 105) rfl (.inl (congrArg Value.bool (beq_iff_eq.2 hsp17))) (fun _ => rfl) rfl ?_
          refine RS.off (dj := 105) rfl (.inl (congrArg Value.bool (beq_iff_eq.2 hsp17))) (fun _ => rfl) rfl ?_
          refine RS.off (dj := 105) rfl (.inl (congrArg Value.bool (beq_iff_eq.2 hsp17))) (fun _ => rfl) rfl ?_
          refine RS.off (dj := 105) rfl (.inl (congrArg Value.bool (beq_iff_eq.2 hsp17))) (fun _ => rfl) rfl ?_
          refine RS.off (dj := 105) rfl (.inl (congrArg Value.bool (beq_iff_eq.2 hsp17))) (fun _ => rfl) rfl ?_
          refine RS.off (dj := 105) rfl (.inl (congrArg Value.bool (beq_iff_eq.2 hsp17))) (fun _ => rfl) rfl ?_
          refine RS.on (dj := 101) rfl (congrArg Value.bool ha1) ?_
          refine RS.q rfl (QO.pickT (by rfl) (beq_iff_eq.2 hsp17) (by rfl)) ?_
          refine RS.q rfl (QO.pickT (by rfl) ha1 (by rfl)) ?_
          refine RS.q rfl (QO.move) ?_
          refine RS.on (dj := 114) rfl (congrArg Value.bool rfl) ?_
          refine RS.q rfl (QO.fieldAddr fo82_5 (by rfl)) ?_
          refine RS.on (dj := 114) rfl (congrArg Value.bool rfl) ?_
          first | (refine RS.q rfl (QO.load ty36 (by rfl) (by repeat (first | exact List.Mem.head _ | refine List.Mem.tail _ ?_)) (by rfl)) ?_) | (refine RS.q rfl (QO.loadO ty36 (by rfl) (by assumption)) ?_) | (refine RS.q rfl (QO.load ty36 (by rfl) (by repeat (first | exact List.Mem.head _ | refine List.Mem.tail _ ?_)) (by assumption)) ?_)
          refine RS.on (dj := 114) rfl (congrArg Value.bool rfl) ?_
          refine RS.q rfl (QO.fcmp32 (by rfl) (by rfl) (by simp)) ?_
          refine RS.q rfl (QO.pickT (by rfl) rfl (by rfl)) ?_
          refine RS.q rfl (QO.move) ?_
          refine RS.on (dj := 119) rfl (congrArg Value.bool hs1) ?_
          refine RS.q rfl (QO.fieldAddr fo82_5 (by rfl)) ?_
          refine RS.on (dj := 119) rfl (congrArg Value.bool hs1) ?_
          first | (refine RS.q rfl (QO.load ty36 (by rfl) (by repeat (first | exact List.Mem.head _ | refine List.Mem.tail _ ?_)) (by rfl)) ?_) | (refine RS.q rfl (QO.loadO ty36 (by rfl) (by assumption)) ?_) | (refine RS.q rfl (QO.load ty36 (by rfl) (by repeat (first | exact List.Mem.head _ | refine List.Mem.tail _ ?_)) (by assumption)) ?_)
          refine RS.on (dj := 119) rfl (congrArg Value.bool hs1) ?_
          refine RS.q rfl (QO.fcmp32 (by rfl) (by rfl) (by simp)) ?_
          refine RS.q rfl (QO.pickT (by rfl) hs1 (by rfl)) ?_
          refine RS.q rfl (QO.assign) ?_
          refine RS.nil ?_
          refine thenC_n ?_
          refine CS.ret ?_
          refine retQ.mk (H' := []) (.inr rfl) (RVs.tmp (by rfl) RVs.nil) (List.nil_sublist _) ?_
          first | exact ⟨rfl, rfl⟩ | exact ⟨congrArg Value.bool hs2, rfl⟩
        · refine CS.region ?_
          have hR0 := atF_0 hR (by assumption)
          have hsz : srcE t rate l hd = 0 := by assumption
          have hd0 := srcE_rg hsz
          have hh := atR_hit hsp4 hd0.1 hd0.2 hR0
          obtain ⟨⟨hs1, hs2⟩, hp1, hp2⟩ := hh
          have hI := hok30 hsz
          have ha1 : anyP m30 s1.reel s1.frame = true := by
            obtain ⟨k, k1, k2, k3, k4⟩ := hp1
            rw [← k2]; exact anyP_of (hI.has k1 k3 k4)
          have ha2 : s1.back ≠ [] → anyP m30 s1.back s1.bf = true := fun hne => by
            rcases hp2 with h | ⟨_, k, k1, k2, k3, k4⟩
            · exact absurd h hne
            · rw [← k2]; exact anyP_of (hI.has k1 k3 k4)
          refine RS.q rfl (QO.move) ?_
          refine RS.q rfl (QO.fieldAddr fo82_1 (by rfl)) ?_
          first | (refine RS.q rfl (QO.load ty9 (by rfl) (by repeat (first | exact List.Mem.head _ | refine List.Mem.tail _ ?_)) (by rfl)) ?_) | (refine RS.q rfl (QO.loadO ty9 (by rfl) (by assumption)) ?_) | (refine RS.q rfl (QO.load ty9 (by rfl) (by repeat (first | exact List.Mem.head _ | refine List.Mem.tail _ ?_)) (by assumption)) ?_)
          refine RS.q rfl (QO.fieldAddr fo82_2 (by rfl)) ?_
          first | (refine RS.q rfl (QO.load ty3 (by rfl) (by repeat (first | exact List.Mem.head _ | refine List.Mem.tail _ ?_)) (by rfl)) ?_) | (refine RS.q rfl (QO.loadO ty3 (by rfl) (by assumption)) ?_) | (refine RS.q rfl (QO.load ty3 (by rfl) (by repeat (first | exact List.Mem.head _ | refine List.Mem.tail _ ?_)) (by assumption)) ?_)
          refine RS.call rfl (by rfl) ok50 (by rfl) (fun w ho => hasP A30 c30 m30 s1.reel s1.frame g10 _ (hPS30 _ _ _ ho (fun b hb => by simp only [List.mem_cons, List.mem_append, hb, or_true, true_or])) hl30 (ho.cellG (g := g10) (by repeat (first | exact List.Mem.head _ | refine List.Mem.tail _ ?_)) rfl)) ?_
          rintro _ _ ⟨rfl, rfl⟩
          refine RS.q rfl (QO.move) ?_
          refine RS.on (dj := 101) rfl (congrArg Value.bool ha1) ?_
          refine RS.q rfl (QO.fieldAddr fo82_3 (by rfl)) ?_
          refine RS.on (dj := 101) rfl (congrArg Value.bool ha1) ?_
          first | (refine RS.q rfl (QO.load ty9 (by rfl) (by repeat (first | exact List.Mem.head _ | refine List.Mem.tail _ ?_)) (by rfl)) ?_) | (refine RS.q rfl (QO.loadO ty9 (by rfl) (by assumption)) ?_) | (refine RS.q rfl (QO.load ty9 (by rfl) (by repeat (first | exact List.Mem.head _ | refine List.Mem.tail _ ?_)) (by assumption)) ?_)
          refine RS.on (dj := 101) rfl (congrArg Value.bool ha1) ?_
          refine RS.q rfl (QO.streq (by rfl) (by rfl)) ?_
          refine RS.on (dj := 101) rfl (congrArg Value.bool ha1) ?_
          refine RS.q rfl (QO.move) ?_
          refine RS.on (dj := 105) rfl (congrArg Value.bool (beq_eq_false_iff_ne.2 hsp17)) ?_
          refine RS.q rfl (QO.move) ?_
          refine RS.on (dj := 105) rfl (congrArg Value.bool (beq_eq_false_iff_ne.2 hsp17)) ?_
          refine RS.q rfl (QO.fieldAddr fo82_3 (by rfl)) ?_
          refine RS.on (dj := 105) rfl (congrArg Value.bool (beq_eq_false_iff_ne.2 hsp17)) ?_
          first | (refine RS.q rfl (QO.load ty9 (by rfl) (by repeat (first | exact List.Mem.head _ | refine List.Mem.tail _ ?_)) (by rfl)) ?_) | (refine RS.q rfl (QO.loadO ty9 (by rfl) (by assumption)) ?_) | (refine RS.q rfl (QO.load ty9 (by rfl) (by repeat (first | exact List.Mem.head _ | refine List.Mem.tail _ ?_)) (by assumption)) ?_)
          refine RS.on (dj := 105) rfl (congrArg Value.bool (beq_eq_false_iff_ne.2 hsp17)) ?_
          refine RS.q rfl (QO.fieldAddr fo82_4 (by rfl)) ?_
          refine RS.on (dj := 105) rfl (congrArg Value.bool (beq_eq_false_iff_ne.2 hsp17)) ?_
          first | (refine RS.q rfl (QO.load ty3 (by rfl) (by repeat (first | exact List.Mem.head _ | refine List.Mem.tail _ ?_)) (by rfl)) ?_) | (refine RS.q rfl (QO.loadO ty3 (by rfl) (by assumption)) ?_) | (refine RS.q rfl (QO.load ty3 (by rfl) (by repeat (first | exact List.Mem.head _ | refine List.Mem.tail _ ?_)) (by assumption)) ?_)
          refine RS.on (dj := 105) rfl (congrArg Value.bool (beq_eq_false_iff_ne.2 hsp17)) ?_
          refine RS.call rfl (by rfl) ok50 (by rfl) (fun w ho => hasP A30 c30 m30 s1.back s1.bf g10 _ (hPS30 _ _ _ ho (fun b hb => by simp only [List.mem_cons, List.mem_append, hb, or_true, true_or])) hl30 (ho.cellG (g := g10) (by repeat (first | exact List.Mem.head _ | refine List.Mem.tail _ ?_)) rfl)) ?_
          rintro _ _ ⟨rfl, rfl⟩
          refine RS.on (dj := 101) rfl (congrArg Value.bool ha1) ?_
          refine RS.q rfl (QO.pickF (by rfl) (beq_eq_false_iff_ne.2 hsp17) (by rfl)) ?_
          refine RS.q rfl (QO.pickT (by rfl) ha1 (by rfl)) ?_
          refine RS.q rfl (QO.move) ?_
          refine RS.on (dj := 114) rfl (congrArg Value.bool (ha2 hsp17)) ?_
          refine RS.q rfl (QO.fieldAddr fo82_5 (by rfl)) ?_
          refine RS.on (dj := 114) rfl (congrArg Value.bool (ha2 hsp17)) ?_
          first | (refine RS.q rfl (QO.load ty36 (by rfl) (by repeat (first | exact List.Mem.head _ | refine List.Mem.tail _ ?_)) (by rfl)) ?_) | (refine RS.q rfl (QO.loadO ty36 (by rfl) (by assumption)) ?_) | (refine RS.q rfl (QO.load ty36 (by rfl) (by repeat (first | exact List.Mem.head _ | refine List.Mem.tail _ ?_)) (by assumption)) ?_)
          refine RS.on (dj := 114) rfl (congrArg Value.bool (ha2 hsp17)) ?_
          refine RS.q rfl (QO.fcmp32 (by rfl) (by rfl) (by simp)) ?_
          refine RS.q rfl (QO.pickT (by rfl) (ha2 hsp17) (by rfl)) ?_
          refine RS.q rfl (QO.move) ?_
          refine RS.on (dj := 119) rfl (congrArg Value.bool hs1) ?_
          refine RS.q rfl (QO.fieldAddr fo82_5 (by rfl)) ?_
          refine RS.on (dj := 119) rfl (congrArg Value.bool hs1) ?_
          first | (refine RS.q rfl (QO.load ty36 (by rfl) (by repeat (first | exact List.Mem.head _ | refine List.Mem.tail _ ?_)) (by rfl)) ?_) | (refine RS.q rfl (QO.loadO ty36 (by rfl) (by assumption)) ?_) | (refine RS.q rfl (QO.load ty36 (by rfl) (by repeat (first | exact List.Mem.head _ | refine List.Mem.tail _ ?_)) (by assumption)) ?_)
          refine RS.on (dj := 119) rfl (congrArg Value.bool hs1) ?_
          refine RS.q rfl (QO.fcmp32 (by rfl) (by rfl) (by simp)) ?_
          refine RS.q rfl (QO.pickT (by rfl) hs1 (by rfl)) ?_
          refine RS.q rfl (QO.assign) ?_
          refine RS.nil ?_
          refine thenC_n ?_
          refine CS.ret ?_
          refine retQ.mk (H' := []) (.inr rfl) (RVs.tmp (by rfl) RVs.nil) (List.nil_sublist _) ?_
          first | exact ⟨rfl, rfl⟩ | exact ⟨congrArg Value.bool hs2, rfl⟩
  · refine CS.region ?_
    first | (refine RS.q rfl (QO.loadB ty52 (by rfl) (by repeat (first | exact List.Mem.head _ | refine List.Mem.tail _ ?_)) (by rfl)) ?_) | (refine RS.q rfl (QO.loadA ty52 (by rfl) (by repeat (first | exact List.Mem.head _ | refine List.Mem.tail _ ?_)) (by rfl) (by rfl)) ?_) | (refine RS.q rfl (QO.loadOA ty52 (by rfl) (by assumption) (by rfl)) ?_)
    refine RS.q rfl (QO.move) ?_
    refine RS.call rfl (by rfl) ok45 (by rfl) (fun w ho => atA t rate A c l f _ ht (hA.own ho) hr hm) ?_
    intro v24 H24 h24
    rw [atX_bad hsp4] at h24
    have h24 : v24 = .tuple #[.agg #[iv 0, sv [], iv 0, sv [], iv 0, flt 0], iv (edE t rate l)] ∧ H24 = [] := h24
    obtain ⟨rfl, rfl⟩ := h24
    refine RS.q rfl (QO.move) ?_
    refine RS.q rfl (QO.extract (by rfl) (by rfl)) ?_
    refine RS.q rfl (QO.extract (by rfl) (by rfl)) ?_
    refine RS.alloc rfl ty82 ?_
    intro g8
    first | refine RS.storeB ty82 (by rfl) (by rfl) (by rfl) (by rfl) (by rfl) (by repeat (first | exact Upd.head | apply Upd.tail | exact Upd.app _ Upd.head)) (by rfl) ?_ | refine RS.storeP ty82 (by rfl) (by rfl) (by rfl) (by rfl) (by rfl) (by repeat (first | exact Upd.head | apply Upd.tail | exact Upd.app _ Upd.head)) (by rfl) ?_
    refine RS.q rfl (QO.assign) ?_
    refine RS.nil ?_
    refine thenC_n ?_
    refine CS.seq ?_
    refine CS.region ?_
    first | (refine RS.q rfl (QO.loadB ty52 (by rfl) (by repeat (first | exact List.Mem.head _ | refine List.Mem.tail _ ?_)) (by rfl)) ?_) | (refine RS.q rfl (QO.loadA ty52 (by rfl) (by repeat (first | exact List.Mem.head _ | refine List.Mem.tail _ ?_)) (by rfl) (by rfl)) ?_) | (refine RS.q rfl (QO.loadOA ty52 (by rfl) (by assumption) (by rfl)) ?_)
    refine RS.q rfl (QO.move) ?_
    refine RS.call rfl (by rfl) ok46 (by rfl) (fun w ho => sources_ t rate A c l hd _ ht (hA.own ho) hr hm) ?_
    rintro v30 H30 ⟨vs30, m30, rfl, hrow30, hbad30, hok30⟩
    have hms := hbad30 (by rw [srcE_bad hsp4]; exact hsp4)
    subst hms
    have hy30 := hrow30.pl
    obtain ⟨A30, c30, hv30, hl30, hPS30⟩ := hy30
    subst hv30
    refine RS.sbpw (H2 := ⟨g8, 82, [iv 0, sv [], iv 0, sv [], iv 0, flt 0]⟩ :: ⟨g3, 52, [sv t, iv rate, .slice A l.length c]⟩ :: (H30 ++ [])) (sbp_sw [⟨g8, 82, [iv 0, sv [], iv 0, sv [], iv 0, flt 0]⟩, ⟨g3, 52, [sv t, iv rate, .slice A l.length c]⟩] _ _) ?_
    refine RS.q rfl (QO.move) ?_
    refine RS.q rfl (QO.extract (by rfl) (by rfl)) ?_
    refine RS.q rfl (QO.extract (by rfl) (by rfl)) ?_
    refine RS.alloc rfl ty86 ?_
    intro g10
    refine RS.store1 ty86 rfl (by rfl) (by rfl) (by rfl) (by repeat (first | exact Upd.head | apply Upd.tail | exact Upd.app _ Upd.head)) (by first | (simp; done) | (simp; omega) | omega) ?_
    refine RS.q rfl (QO.assign) ?_
    refine RS.nil ?_
    refine thenC_n ?_
    refine CS.seq ?_
    refine CS.seq ?_
    refine CS.region ?_
    first | (refine RS.q rfl (QO.loadB ty52 (by rfl) (by repeat (first | exact List.Mem.head _ | refine List.Mem.tail _ ?_)) (by rfl)) ?_) | (refine RS.q rfl (QO.loadA ty52 (by rfl) (by repeat (first | exact List.Mem.head _ | refine List.Mem.tail _ ?_)) (by rfl) (by rfl)) ?_) | (refine RS.q rfl (QO.loadOA ty52 (by rfl) (by assumption) (by rfl)) ?_)
    refine RS.call rfl (by rfl) ok47 (by rfl) (fun w ho => checkList t rate A l.length c l _ ht rfl (hA.own ho) hr hm) ?_
    rintro _ _ ⟨rfl, rfl⟩
    refine RS.q rfl (QO.move) ?_
    refine RS.q rfl (QO.neq (by rfl) (by rfl)) ?_
    refine RS.nil ?_
    refine thenC_n ?_
    refine CS.condF (by rfl) (bne_self_eq_false _) ?_
    refine CS.skip ?_
    refine thenC_n ?_
    refine CS.seq ?_
    refine CS.seq ?_
    refine CS.region ?_
    refine RS.q rfl (QO.move) ?_
    refine RS.q rfl (QO.neq (by rfl) (by rfl)) ?_
    refine RS.nil ?_
    refine thenC_n ?_
    refine CS.condT (by rfl) (bne_iff_ne.2 hsp4) ?_
    refine CS.seq ?_
    refine CS.region ?_
    refine RS.q rfl (QO.move) ?_
    refine RS.q rfl (QO.move) ?_
    refine RS.q rfl (QO.eql (by rfl) (by rfl)) ?_
    refine RS.q rfl (QO.move) ?_
    refine RS.on (dj := 42) rfl (congrArg Value.bool (beq_self_eq_true _)) ?_
    refine RS.q rfl (QO.move) ?_
    refine RS.on (dj := 42) rfl (congrArg Value.bool (beq_self_eq_true _)) ?_
    refine RS.q rfl (QO.move) ?_
    refine RS.on (dj := 42) rfl (congrArg Value.bool (beq_self_eq_true _)) ?_
    refine RS.q rfl (QO.eql (by rfl) (by rfl)) ?_
    refine RS.q rfl (QO.pickT (by rfl) (beq_self_eq_true _) (by rfl)) ?_
    refine RS.q rfl (QO.move) ?_
    refine RS.on (dj := 47) rfl (congrArg Value.bool (beq_iff_eq.2 (srcE_bad hsp4))) ?_
    first | (refine RS.q rfl (QO.loadB ty82 (by rfl) (by repeat (first | exact List.Mem.head _ | refine List.Mem.tail _ ?_)) (by rfl)) ?_) | (refine RS.q rfl (QO.loadA ty82 (by rfl) (by repeat (first | exact List.Mem.head _ | refine List.Mem.tail _ ?_)) (by rfl) (by rfl)) ?_) | (refine RS.q rfl (QO.loadOA ty82 (by rfl) (by assumption) (by rfl)) ?_)
    refine RS.on (dj := 47) rfl (congrArg Value.bool (beq_iff_eq.2 (srcE_bad hsp4))) ?_
    refine RS.q rfl (QO.build ty82 pl82 (by rfl)) ?_
    refine RS.on (dj := 47) rfl (congrArg Value.bool (beq_iff_eq.2 (srcE_bad hsp4))) ?_
    refine RS.qv rfl (QO.seqlM (fdI 0 Sh.z) (fdI 0 Sh.z) mix82 (by rfl) (by rfl) rfl rfl) (congrArg Value.bool (fdI_self (s := Sh.z) (i := 0) (by decide))) ?_
    refine RS.q rfl (QO.pickT (by rfl) (beq_iff_eq.2 (srcE_bad hsp4)) (by rfl)) ?_
    refine RS.q rfl (QO.move) ?_
    refine RS.on (dj := 52) rfl (congrArg Value.bool rfl) ?_
    first | (refine RS.q rfl (QO.load ty86 (by rfl) (by repeat (first | exact List.Mem.head _ | refine List.Mem.tail _ ?_)) (by rfl)) ?_) | (refine RS.q rfl (QO.loadO ty86 (by rfl) (by assumption)) ?_) | (refine RS.q rfl (QO.load ty86 (by rfl) (by repeat (first | exact List.Mem.head _ | refine List.Mem.tail _ ?_)) (by assumption)) ?_)
    refine RS.on (dj := 52) rfl (congrArg Value.bool rfl) ?_
    refine RS.q rfl (QO.lenS Tryd.underlying86 (by rfl)) ?_
    refine RS.on (dj := 52) rfl (congrArg Value.bool rfl) ?_
    refine RS.q rfl (QO.eql (by rfl) (by rfl)) ?_
    refine RS.q rfl (QO.pickT (by rfl) rfl (by rfl)) ?_
    refine RS.q rfl (QO.assign) ?_
    refine RS.nil ?_
    refine thenC_n ?_
    refine CS.ret ?_
    refine thenC_r ?_
    refine retQ.mk (H' := []) (.inr rfl) (RVs.tmp (by rfl) RVs.nil) (List.nil_sublist _) ?_
    exact ⟨rfl, rfl⟩

theorem editsMatchN (t : List UInt8) (rate : Int) (A : Option Addr) (n c : Nat) (l : List Ev) (f hd : Int) (W : World) (ht : t.length ≤ maxLen) (hn : l.length = n) (hA : ES W A l) (hr : ∀ e ∈ l, e.reel.length ≤ maxLen) (hm : n ≤ maxLen) : Fn_ Tryd.prog 8 #[.agg #[sv t, iv rate, .slice A n c], iv f, iv hd] W (fun v H => v = .bool true ∧ H = []) := by
  subst hn
  exact editsMatch t rate A c l f hd W ht hA hr hm

end Go.Proofs.YtapcgokcfmklbaaDoor

namespace Go.Proofs.YtapcgokcfmklbaaDoor
open Go Go.ChangeShapes Go.WideShapes Go.RowKit

section
variable {H : Type} {enc : TypeId × Value → H} {P : Program} {w : World} {base : Nat} {spare : Nat → Bool} {held : Bool}
theorem All2.get {α β : Type} {R : α → β → Prop} : ∀ {a : List α} {b : List β} (_ : All2 R a b) (i : Nat) (x : α) (y : β), a[i]? = some x → b[i]? = some y → R x y
  | [], [], _, i, x, y, h, _ => by simp at h
  | a :: l, b :: m, h, 0, x, y, h1, h2 => by
    simp at h1 h2
    subst h1 h2
    exact h.1
  | a :: l, b :: m, h, i + 1, x, y, h1, h2 => All2.get h.2 i x y (by simpa using h1) (by simpa using h2)
/-- A slice whose elements are rows of leaves. -/
theorem Leaf.sliceN {l e : TypeId} {c : Value} {ls : List TypeId} {d : Nat} (ht : P.underlying l = some (.slice e)) (hl : leaves P d e = some ls) (hc : P.cellsOf e = ls.length) (h : Leaf enc P w base spare held l c) :
    ∃ (A : Option Addr) (n cap : Nat) (C : Nat → List Value), c = .slice A n cap ∧ n ≤ cap ∧ cap ≤ maxLen ∧ ∀ i, i < n → ∃ a, A = some a ∧ All2 (Leaf enc P w base spare held) ls (C i) ∧ ∀ j v, (C i)[j]? = some v → w.cell? (a.add (i * ls.length + j)) = some v := by
  obtain ⟨fuel, x, hx⟩ := h
  rcases Go.Deep.open_slice ht hx with ⟨h1, _⟩ | ⟨a, len, cap, m, n, D, Pl, h1, _, h2, h3, h4, _, h5⟩
  · exact ⟨none, 0, 0, fun _ => [], by simpa using h1, Nat.le_refl _, by simp, fun i hi => by omega⟩
  · obtain ⟨C, hC⟩ := Go.Deep.choose_lt (α := List Value) (n := len) (p := fun i cs => w.cells? base (a.add (i * P.cellsOf e)) (P.cellsOf e) = some cs ∧ DataW.trod enc P w base spare held n e cs = some (D i, Pl i)) (fun i hi => h5 i (by rw [h4]; split <;> omega))
    refine ⟨some a, len, cap, C, by simpa using h1, h2, h3, fun i hi => ⟨a, rfl, ?_, fun j v hj => ?_⟩⟩
    · exact leaves_trod d hl (hC i hi).2
    · obtain ⟨_, h6, h7⟩ := World.cells?_some (hC i hi).1
      have h8 : j < (C i).length := (List.getElem?_eq_some_iff.1 hj).1
      have h9 := h7 j (by omega)
      rw [hc] at h9
      rw [Addr.add_add] at h9
      rw [h9, hj]
end
end Go.Proofs.YtapcgokcfmklbaaDoor

namespace Go.Proofs.YtapcgokcfmklbaaDoor
open Go Go.ChangeShapes Go.WideShapes Go.RowKit

section
variable {H : Type} {enc : TypeId × Value → H} {P : Program} {w : World} {base : Nat} {spare : Nat → Bool} {held : Bool}
theorem Leaf.events {l e ts t1 t2 t3 t4 t5 : TypeId} {c : Value} {d : Nat} (ht : P.underlying l = some (.slice e)) (hl : leaves P d e = some [ts, t1, t2, t3, t4, t5]) (hc : P.cellsOf e = 6) (hs : P.underlying ts = some .string)
    (h1 : P.underlying t1 = some (.int .i64)) (h2 : P.underlying t2 = some (.int .i64)) (h3 : P.underlying t3 = some (.int .i64)) (h4 : P.underlying t4 = some (.int .i64)) (h5 : P.underlying t5 = some (.int .i64)) (h : Leaf enc P w base spare held l c) :
    ∃ (A : Option Addr) (n cap : Nat) (xs : List Ev), c = .slice A n cap ∧ n ≤ cap ∧ cap ≤ maxLen ∧ xs.length = n ∧ ES w A xs ∧ ∀ x ∈ xs, x.reel.length ≤ maxLen := by
  obtain ⟨A, n, cap, C, rfl, k1, k2, hC⟩ := h.sliceN ht hl hc
  have key : ∀ i, i < n → ∃ x : Ev, x.reel.length ≤ maxLen ∧ ∃ a, A = some a ∧ ∀ j v, (evc x)[j]? = some v → w.cell? (a.add (i * 6 + j)) = some v := fun i hi => by
    obtain ⟨a, q1, q2, q3⟩ := hC i hi
    obtain ⟨c0, r0, e0, l0, a0⟩ := q2.cons_inv
    obtain ⟨c1, r1, rfl, l1, a1⟩ := a0.cons_inv
    obtain ⟨c2, r2, rfl, l2, a2⟩ := a1.cons_inv
    obtain ⟨c3, r3, rfl, l3, a3⟩ := a2.cons_inv
    obtain ⟨c4, r4, rfl, l4, a4⟩ := a3.cons_inv
    obtain ⟨c5, r5, rfl, l5, a5⟩ := a4.cons_inv
    obtain rfl := a5.nil_inv
    obtain ⟨s, rfl, hsz⟩ := l0.string hs
    obtain ⟨sl, rfl⟩ := sv_of s
    obtain ⟨x1, rfl, _⟩ := l1.int h1
    obtain ⟨x2, rfl, _⟩ := l2.int h2
    obtain ⟨x3, rfl, _⟩ := l3.int h3
    obtain ⟨x4, rfl, _⟩ := l4.int h4
    obtain ⟨x5, rfl, _⟩ := l5.int h5
    exact ⟨⟨sl, x1, x2, x3, x4, x5⟩, hsz, a, q1, fun j v hj => q3 j v (by rw [e0]; exact hj)⟩
  obtain ⟨F, hF⟩ := Go.Deep.choose_lt (α := Ev) (n := n) (p := fun i x => x.reel.length ≤ maxLen ∧ ∃ a, A = some a ∧ ∀ j v, (evc x)[j]? = some v → w.cell? (a.add (i * 6 + j)) = some v) key
  refine ⟨A, n, cap, (List.range n).map F, rfl, k1, k2, by simp, fun hp => ?_, fun x hx => ?_⟩
  · simp at hp
    obtain ⟨_, ⟨b, o, sp⟩, rfl, q⟩ := hF 0 hp
    have q0 := q 0 (sv (F 0).reel) rfl
    have hsp : sp = none := by simpa [Addr.add] using World.cell?_spot q0
    subst hsp
    refine ⟨b, o, rfl, fun i x hi j v hj => ?_⟩
    have hl : i < n := by simpa using (List.getElem?_eq_some_iff.1 hi).1
    obtain ⟨_, a, q1, q2⟩ := hF i hl
    cases q1
    rw [List.getElem?_map, List.getElem?_range hl] at hi
    cases hi
    have q3 := q2 j v hj
    rw [addr_add] at q3
    rw [Nat.add_assoc]
    exact q3
  · rw [List.mem_map] at hx
    obtain ⟨i, hi, rfl⟩ := hx
    exact (hF i (List.mem_range.1 hi)).1
end
end Go.Proofs.YtapcgokcfmklbaaDoor

namespace Go.Proofs.YtapcgokcfmklbaaDoor
open Go Go.ChangeShapes Go.WideShapes Go.ChangeAt Go.RowKit
open Go.ChangeMaps (open_string shut_string)

theorem editsMatch_own : ownKnob Tryd.prog.godebug = none := by kernel_rfl
theorem editsMatch_laidOut : laidOutB Tryd.prog = true := by kernel_rfl
theorem editsMatch_lv52 : leaves Tryd.prog 9 52 = some [9, 3, 50] := by kernel_rfl
theorem editsMatch_lv134 : leaves Tryd.prog 9 134 = some [9, 3, 3, 3, 3, 3] := by kernel_rfl
theorem editsMatch_co134 : Tryd.prog.cellsOf 134 = 6 := by kernel_rfl
noncomputable def editsMatch_world (os : Os) : World :=
  let w0 := World.holding Tryd.prog os ⟨#[], #[], []⟩
  { w0 with heap := ((w0.heap.modify 6 fun | .cells _ t frozen => .cells #[.int .u8 128, .int .u8 191, .int .u8 160, .int .u8 191, .int .u8 128, .int .u8 159, .int .u8 144, .int .u8 191, .int .u8 128, .int .u8 143, .int .u8 0, .int .u8 0, .int .u8 0, .int .u8 0, .int .u8 0, .int .u8 0, .int .u8 0, .int .u8 0, .int .u8 0, .int .u8 0, .int .u8 0, .int .u8 0, .int .u8 0, .int .u8 0, .int .u8 0, .int .u8 0, .int .u8 0, .int .u8 0, .int .u8 0, .int .u8 0, .int .u8 0, .int .u8 0] t frozen | o => o).modify 5 fun | .cells _ t frozen => .cells #[.int .u8 240, .int .u8 240, .int .u8 240, .int .u8 240, .int .u8 240, .int .u8 240, .int .u8 240, .int .u8 240, .int .u8 240, .int .u8 240, .int .u8 240, .int .u8 240, .int .u8 240, .int .u8 240, .int .u8 240, .int .u8 240, .int .u8 240, .int .u8 240, .int .u8 240, .int .u8 240, .int .u8 240, .int .u8 240, .int .u8 240, .int .u8 240, .int .u8 240, .int .u8 240, .int .u8 240, .int .u8 240, .int .u8 240, .int .u8 240, .int .u8 240, .int .u8 240, .int .u8 240, .int .u8 240, .int .u8 240, .int .u8 240, .int .u8 240, .int .u8 240, .int .u8 240, .int .u8 240, .int .u8 240, .int .u8 240, .int .u8 240, .int .u8 240, .int .u8 240, .int .u8 240, .int .u8 240, .int .u8 240, .int .u8 240, .int .u8 240, .int .u8 240, .int .u8 240, .int .u8 240, .int .u8 240, .int .u8 240, .int .u8 240, .int .u8 240, .int .u8 240, .int .u8 240, .int .u8 240, .int .u8 240, .int .u8 240, .int .u8 240, .int .u8 240, .int .u8 240, .int .u8 240, .int .u8 240, .int .u8 240, .int .u8 240, .int .u8 240, .int .u8 240, .int .u8 240, .int .u8 240, .int .u8 240, .int .u8 240, .int .u8 240, .int .u8 240, .int .u8 240, .int .u8 240, .int .u8 240, .int .u8 240, .int .u8 240, .int .u8 240, .int .u8 240, .int .u8 240, .int .u8 240, .int .u8 240, .int .u8 240, .int .u8 240, .int .u8 240, .int .u8 240, .int .u8 240, .int .u8 240, .int .u8 240, .int .u8 240, .int .u8 240, .int .u8 240, .int .u8 240, .int .u8 240, .int .u8 240, .int .u8 240, .int .u8 240, .int .u8 240, .int .u8 240, .int .u8 240, .int .u8 240, .int .u8 240, .int .u8 240, .int .u8 240, .int .u8 240, .int .u8 240, .int .u8 240, .int .u8 240, .int .u8 240, .int .u8 240, .int .u8 240, .int .u8 240, .int .u8 240, .int .u8 240, .int .u8 240, .int .u8 240, .int .u8 240, .int .u8 240, .int .u8 240, .int .u8 240, .int .u8 240, .int .u8 240, .int .u8 240, .int .u8 241, .int .u8 241, .int .u8 241, .int .u8 241, .int .u8 241, .int .u8 241, .int .u8 241, .int .u8 241, .int .u8 241, .int .u8 241, .int .u8 241, .int .u8 241, .int .u8 241, .int .u8 241, .int .u8 241, .int .u8 241, .int .u8 241, .int .u8 241, .int .u8 241, .int .u8 241, .int .u8 241, .int .u8 241, .int .u8 241, .int .u8 241, .int .u8 241, .int .u8 241, .int .u8 241, .int .u8 241, .int .u8 241, .int .u8 241, .int .u8 241, .int .u8 241, .int .u8 241, .int .u8 241, .int .u8 241, .int .u8 241, .int .u8 241, .int .u8 241, .int .u8 241, .int .u8 241, .int .u8 241, .int .u8 241, .int .u8 241, .int .u8 241, .int .u8 241, .int .u8 241, .int .u8 241, .int .u8 241, .int .u8 241, .int .u8 241, .int .u8 241, .int .u8 241, .int .u8 241, .int .u8 241, .int .u8 241, .int .u8 241, .int .u8 241, .int .u8 241, .int .u8 241, .int .u8 241, .int .u8 241, .int .u8 241, .int .u8 241, .int .u8 241, .int .u8 241, .int .u8 241, .int .u8 2, .int .u8 2, .int .u8 2, .int .u8 2, .int .u8 2, .int .u8 2, .int .u8 2, .int .u8 2, .int .u8 2, .int .u8 2, .int .u8 2, .int .u8 2, .int .u8 2, .int .u8 2, .int .u8 2, .int .u8 2, .int .u8 2, .int .u8 2, .int .u8 2, .int .u8 2, .int .u8 2, .int .u8 2, .int .u8 2, .int .u8 2, .int .u8 2, .int .u8 2, .int .u8 2, .int .u8 2, .int .u8 2, .int .u8 2, .int .u8 19, .int .u8 3, .int .u8 3, .int .u8 3, .int .u8 3, .int .u8 3, .int .u8 3, .int .u8 3, .int .u8 3, .int .u8 3, .int .u8 3, .int .u8 3, .int .u8 3, .int .u8 35, .int .u8 3, .int .u8 3, .int .u8 52, .int .u8 4, .int .u8 4, .int .u8 4, .int .u8 68, .int .u8 241, .int .u8 241, .int .u8 241, .int .u8 241, .int .u8 241, .int .u8 241, .int .u8 241, .int .u8 241, .int .u8 241, .int .u8 241, .int .u8 241] t frozen | o => o) }
theorem editsMatch_met (os : Os) (args : Array Value) : laidMetH Tryd.prog Rows.editsMatchRow.laid ((editsMatch_world os).forCall (fun _ _ => 0) ⟨#[], args, []⟩).memory :=
  laidMetH_of_parts (laidMet_of_run3 8 (by kernel_rfl) (by kernel_rfl) (by kernel_rfl)) (by kernel_rfl)
set_option maxHeartbeats 4000000 in
set_option maxRecDepth 100000 in
theorem editsMatch_lifted (os : Os) (started : os.Started) (H : Type) (enc : TypeId × Value → H) :
    ReturnsInHanded {} Tryd.checked os 8 .any (fun w args => (Rows.editsMatchSpec.pre enc Tryd.prog Tryd.f8 Rows.editsMatchRow.domain false w args ∧ laidMetH Tryd.prog Rows.editsMatchRow.laid w) ∧ sizedMet enc Tryd.prog Tryd.f8 (OpenSpec.ofChange Rows.editsMatchSpec) false w args)
      (Rows.editsMatchSpec.post enc Tryd.prog Tryd.f8 false true false false) := by
  refine returnsInHanded_of_change_and (C := Tryd.checked) (X := fun w _ => laidMetH Tryd.prog Rows.editsMatchRow.laid w) (fun _ _ _ hh h => h.of_heap hh) editsMatch_own started (by kernel_rfl) Tryd.func8
    (ChangeSpec.witness_at (enc := enc) (C := Tryd.checked) (os := os) (X := fun w _ => laidMetH Tryd.prog Rows.editsMatchRow.laid w) false (editsMatch_world os) #[.agg #[.string ByteArray.empty, .int .i64 0, .slice none 0 0], .int .i64 0, .int .i64 0] 8 rfl (by kernel_rfl) (by kernel_rfl) (by kernel_rfl) (by kernel_rfl) (by kernel_rfl) (editsMatch_met os _)) ?_
  intro W base args ds gs before hval0 hW _ _ hL _
  have hval : ∀ (j : Nat) t v, Tryd.f8.params[j]? = some t → args[j]? = some v → Value.okWide Tryd.prog W .any base t v := hval0
  have hW' := hW
  obtain ⟨p, q, hA0, hV, rfl, hfz, hnd⟩ := hW
  have hA : DataW.TrodAll enc Tryd.prog W 0 (fun _ => true) true Tryd.f8.params.toList args.toList ds p := hA0
  rw [Tryd.params8] at hA hval
  obtain ⟨v0, vs0, d0, ds0, p0, q0, hargs, rfl, rfl, h0, r0⟩ := trodAll_cons hA
  obtain ⟨v1, vs1, d1, ds1, p1, q1, rfl, rfl, rfl, h1, r1⟩ := trodAll_cons r0
  obtain ⟨v2, vs2, d2, ds2, p2, q2, rfl, rfl, rfl, h2, r2⟩ := trodAll_cons r1
  obtain ⟨rfl, rfl, rfl⟩ := trodAll_nil r2
  obtain rfl : args = #[v0, v1, v2] := by cases args; simp_all
  obtain ⟨rfl, rfl⟩ := trodVars_none hV
  have k0 := h0
  have lt0 : ∀ x ∈ p0, x.block < W.heap.size := by obtain ⟨m, hm⟩ := k0; exact DataW.trod_lt m _ _ _ hm
  have k1 := h1
  have lt1 : ∀ x ∈ p1, x.block < W.heap.size := by obtain ⟨m, hm⟩ := k1; exact DataW.trod_lt m _ _ _ hm
  have k2 := h2
  have lt2 : ∀ x ∈ p2, x.block < W.heap.size := by obtain ⟨m, hm⟩ := k2; exact DataW.trod_lt m _ _ _ hm
  obtain ⟨cs0, rfl, a0⟩ := open_agg Tryd.underlying52 editsMatch_lv52 (hval 0 52 v0 rfl rfl) h0
  obtain ⟨c0_0, cs0_0, rfl, l0_0, a0_0⟩ := a0.cons_inv
  obtain ⟨c0_1, cs0_1, rfl, l0_1, a0_1⟩ := a0_0.cons_inv
  obtain ⟨c0_2, cs0_2, rfl, l0_2, a0_2⟩ := a0_1.cons_inv
  obtain rfl := a0_2.nil_inv
  obtain ⟨ti, el0_0, l0_0_w⟩ := l0_0.string Tryd.underlying9
  cases el0_0
  obtain ⟨ti_l, rfl⟩ := sv_of ti
  obtain ⟨ra, el0_1, l0_1_w⟩ := l0_1.int Tryd.underlying3
  cases el0_1
  obtain ⟨xs_A, xs_n, xs_c, xs, el0_2, xs_k, xs_m, xs_l, xs_f, xs_r⟩ := l0_2.events Tryd.underlying50 editsMatch_lv134 editsMatch_co134 Tryd.underlying9 Tryd.underlying3 Tryd.underlying3 Tryd.underlying3 Tryd.underlying3 Tryd.underlying3
  cases el0_2
  have hc1 : v1.cells.toList = [v1] := by obtain ⟨_, rfl⟩ := okWide_int Tryd.underlying3 (hval 1 3 v1 rfl rfl); rfl
  have l1 := leaf_of h1 hc1
  obtain ⟨fr, el1, l1_w⟩ := l1.int Tryd.underlying3
  cases el1
  have hc2 : v2.cells.toList = [v2] := by obtain ⟨_, rfl⟩ := okWide_int Tryd.underlying3 (hval 2 3 v2 rfl rfl); rfl
  have l2 := leaf_of h2 hc2
  obtain ⟨hd, el2, l2_w⟩ := l2.int Tryd.underlying3
  cases el2
  clear hA0 hval0
  refine Calls.mono (editsMatchN ti_l ra xs_A xs_n xs_c xs fr hd W l0_0_w xs_l xs_f xs_r (Nat.le_trans xs_k xs_m)) fun e W' hp => ?_
  obtain ⟨v, HL, rfl, own, rfl, rfl⟩ := hp
  have bel := own.below
  exact ⟨_, rfl, _, _, _, [], _, [], hW', trodAll_mk1 (shut_bool Tryd.underlying4 _), (trodAll_cons_mk (Below.trod editsMatch_laidOut (by kernel_rfl) (of_decide_eq_true (by kernel_rfl)) k0 bel lt0) (trodAll_cons_mk (Below.trod editsMatch_laidOut (by kernel_rfl) (of_decide_eq_true (by kernel_rfl)) k1 bel lt1) (trodAll_cons_mk (Below.trod editsMatch_laidOut (by kernel_rfl) (of_decide_eq_true (by kernel_rfl)) k2 bel lt2) trodAll_mk0))), rfl, bel.frame _, fun h => by cases h⟩

theorem editsMatch_over : Rows.editsMatchRow.holds Tryd.pinned (OpenSpec.ofChange Rows.editsMatchSpec) :=
  OpenClaim.holds_of_wide 8 Tryd.f8 rfl rfl rfl rfl rfl rfl rfl ⟨rfl, rfl, rfl, rfl, rfl⟩ rfl rfl rfl rfl rfl (by kernel_rfl) Tryd.func8 (by kernel_rfl)
    (of_decide_eq_true (by kernel_rfl)) (by unfold Func.isWrapper; first | (rw [if_pos (by decide +kernel)]; kernel_rfl) | (rw [if_neg (by decide +kernel)]; exact ⟨rfl, rfl⟩))
    (fun os started H enc _ => editsMatch_lifted os started H enc)

/-- THE CARD. -/
theorem edits_holds : Rows.EditsMatchCardSaid :=
  Claim7.holds_tied_plain_at .later [] [.data, .pinned] true (true, "d5b4c5b13e6f2710a2cb662ce8480e31557b2373c652e738d697671e6e1f56ba") true
    editsMatch_over (fun _ h => by cases h) (by kernel_rfl) (fun _ h => by cases h) editsMatch_row_tie rfl ⟨rfl, rfl⟩ (by kernel_rfl) rfl
    (fun f fn hf hfn => by
      obtain rfl : f = 8 := Option.some.inj ((show Tryd.prog.funcNamed "dyehouse/dyelaw1.EditsMatch" = some 8 by kernel_rfl).symm.trans hf) |>.symm
      obtain rfl : fn = Tryd.f8 := (Option.some.inj (Tryd.func8.symm.trans hfn)).symm
      exact ⟨by kernel_rfl, fun j t ht => by
        rw [Tryd.params8] at ht
        have h3 : t = 3 ∨ t = 52 := by
          have hj : j < 3 := (Array.getElem?_eq_some_iff.1 ht).1
          match j, hj, ht with
          | 0, _, ht => exact .inr ((Option.some.inj ht).symm)
          | 1, _, ht => exact .inl (Option.some.inj ht).symm
          | 2, _, ht => exact .inl (Option.some.inj ht).symm
        rcases h3 with rfl | rfl
        · exact (show Tryd.prog.wantsStandIn 3 = false by kernel_rfl)
        · exact (show Tryd.prog.wantsStandIn 52 = false by kernel_rfl)⟩)
    (by kernel_rfl)
#print axioms edits_holds
end Go.Proofs.YtapcgokcfmklbaaDoor
