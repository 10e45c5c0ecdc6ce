/-
  Part 3 of what the proof leans on (G2, Near). Conditions: as each theorem says.
-/
import Derived.Test.YtapcgokcfmklbaaX2
namespace Go.Proofs.Ytapcgokcfmklbaa
open Go Go.Proofs Go.RowKit

theorem ty59 : tyChk Try.prog 59 = some ([.slice none 0 0], false, 24) := by kernel_rfl
theorem fo61_0 : fldOff Try.prog 61 0 = some (0, 3) := by kernel_rfl
theorem fo61_1 : fldOff Try.prog 61 1 = some (1, 29) := by kernel_rfl
theorem fo61_2 : fldOff Try.prog 61 2 = some (2, 29) := by kernel_rfl
theorem fo61_3 : fldOff Try.prog 61 3 = some (3, 29) := by kernel_rfl
theorem fo61_4 : fldOff Try.prog 61 4 = some (4, 29) := by kernel_rfl
theorem fo61_5 : fldOff Try.prog 61 5 = some (5, 29) := by kernel_rfl
theorem fo61_6 : fldOff Try.prog 61 6 = some (6, 59) := by kernel_rfl
theorem ok123 : callOK Try.prog 123 = true := by kernel_rfl
theorem ok127 : callOK Try.prog 127 = true := by kernel_rfl

def nz (q : Nat) : Bool := fcmpB .neq q 0
def ez (q : Nat) : Bool := fcmpB .eql q 0
/-- is a window out of its bounds -/
def outW (u : Win) : Bool := outF u.x 3380609024 1233125376 || outF u.y 3380609024 1233125376 || outF u.w 0 1233125376 || outF u.h 0 1233125376 || outF u.soft 0 1166016512
def badP (u : Win) : Prop := (u.kind = 3 ∧ (u.pts.length < 3 ∨ 32 < u.pts.length)) ∨ (u.kind ≠ 3 ∧ 0 < u.pts.length)
def nzW (u : Win) : Bool := nz u.x || nz u.y || nz u.w || nz u.h || nz u.soft
def cnfW (u : Win) : Prop := (u.kind = 3 ∧ nzW u = true) ∨ (u.kind = 2 ∧ (ez u.w || ez u.h) = true)
instance (u : Win) : Decidable (badP u) := by unfold badP; infer_instance
instance (u : Win) : Decidable (cnfW u) := by unfold cnfW; infer_instance
def numW (u : Win) : Bool := numsB [u.x, u.y, u.w, u.h, u.soft]
/-- what is wrong with a window -/
def winE (u : Win) : Int :=
  if u.kind ≠ 1 ∧ u.kind ≠ 2 ∧ u.kind ≠ 3 then 1 else if numW u = false then 2 else if outW u = true then 3 else if badP u then 3 else if anyF u.pts = true then 5 else if cnfW u then 12 else 0
theorem winE_1 {u : Win} (h : u.kind ≠ 1 ∧ u.kind ≠ 2 ∧ u.kind ≠ 3) : 1 = winE u := (if_pos h).symm
theorem winE_2 {u : Win} (h : ¬ (u.kind ≠ 1 ∧ u.kind ≠ 2 ∧ u.kind ≠ 3)) (h2 : numW u = false) : 2 = winE u := by unfold winE; rw [if_neg h, if_pos h2]
theorem winE_3 {u : Win} (h : ¬ (u.kind ≠ 1 ∧ u.kind ≠ 2 ∧ u.kind ≠ 3)) (h2 : numW u = true) (h3 : outW u = true) : 3 = winE u := by unfold winE; rw [if_neg h, if_neg (by rw [h2]; decide), if_pos h3]
theorem winE_4 {u : Win} (h : ¬ (u.kind ≠ 1 ∧ u.kind ≠ 2 ∧ u.kind ≠ 3)) (h2 : numW u = true) (h3 : outW u = false) (h4 : badP u) : 3 = winE u := by unfold winE; rw [if_neg h, if_neg (by rw [h2]; decide), if_neg (by rw [h3]; decide), if_pos h4]
theorem winE_5 {u : Win} (h : ¬ (u.kind ≠ 1 ∧ u.kind ≠ 2 ∧ u.kind ≠ 3)) (h2 : numW u = true) (h3 : outW u = false) (h4 : ¬ badP u) (h5 : anyF u.pts = true) : 5 = winE u := by unfold winE; rw [if_neg h, if_neg (by rw [h2]; decide), if_neg (by rw [h3]; decide), if_neg h4, if_pos h5]
theorem winE_6 {u : Win} (h : ¬ (u.kind ≠ 1 ∧ u.kind ≠ 2 ∧ u.kind ≠ 3)) (h2 : numW u = true) (h3 : outW u = false) (h4 : ¬ badP u) (h5 : anyF u.pts = false) (h6 : cnfW u) : 12 = winE u := by unfold winE; rw [if_neg h, if_neg (by rw [h2]; decide), if_neg (by rw [h3]; decide), if_neg h4, if_neg (by rw [h5]; decide), if_pos h6]
theorem outW_1 {u : Win} (h : outF u.x 3380609024 1233125376 = true) : outW u = true := by unfold outW; rw [h]; simp
theorem outW_2 {u : Win} (h : outF u.y 3380609024 1233125376 = true) : outW u = true := by unfold outW; rw [h]; simp
theorem outW_3 {u : Win} (h : outF u.w 0 1233125376 = true) : outW u = true := by unfold outW; rw [h]; simp
theorem outW_4 {u : Win} (h : outF u.h 0 1233125376 = true) : outW u = true := by unfold outW; rw [h]; simp
theorem outW_5 {u : Win} (h : outF u.soft 0 1166016512 = true) : outW u = true := by unfold outW; rw [h]; simp
theorem outW_f {u : Win} (h1 : outF u.x 3380609024 1233125376 = false) (h2 : outF u.y 3380609024 1233125376 = false) (h3 : outF u.w 0 1233125376 = false) (h4 : outF u.h 0 1233125376 = false) (h5 : outF u.soft 0 1166016512 = false) : outW u = false := by unfold outW; rw [h1, h2, h3, h4, h5]; rfl
theorem cnf_1 {u : Win} (h : u.kind = 3) (h1 : fcmpB .neq u.x 0 = true) : cnfW u := .inl ⟨h, by unfold nzW nz; rw [h1]; simp⟩
theorem cnf_2 {u : Win} (h : u.kind = 3) (h1 : fcmpB .neq u.y 0 = true) : cnfW u := .inl ⟨h, by unfold nzW nz; rw [h1]; simp⟩
theorem cnf_3 {u : Win} (h : u.kind = 3) (h1 : fcmpB .neq u.w 0 = true) : cnfW u := .inl ⟨h, by unfold nzW nz; rw [h1]; simp⟩
theorem cnf_4 {u : Win} (h : u.kind = 3) (h1 : fcmpB .neq u.h 0 = true) : cnfW u := .inl ⟨h, by unfold nzW nz; rw [h1]; simp⟩
theorem cnf_5 {u : Win} (h : u.kind = 3) (h1 : fcmpB .neq u.soft 0 = true) : cnfW u := .inl ⟨h, by unfold nzW nz; rw [h1]; simp⟩
theorem cnf_6 {u : Win} (h : u.kind = 2) (h1 : fcmpB .eql u.w 0 = true) : cnfW u := .inr ⟨h, by unfold ez; rw [h1]; simp⟩
theorem cnf_7 {u : Win} (h : u.kind = 2) (h1 : fcmpB .eql u.h 0 = true) : cnfW u := .inr ⟨h, by unfold ez; rw [h1]; simp⟩
theorem cnf_a {u : Win} (h : u.kind = 3) (h1 : fcmpB .neq u.x 0 = false) (h2 : fcmpB .neq u.y 0 = false) (h3 : fcmpB .neq u.w 0 = false) (h4 : fcmpB .neq u.h 0 = false) (h5 : fcmpB .neq u.soft 0 = false) : ¬ cnfW u := by
  rintro (⟨_, hh⟩ | ⟨hk, _⟩)
  · unfold nzW nz at hh; rw [h1, h2, h3, h4, h5] at hh; cases hh
  omega
theorem cnf_b {u : Win} (h : u.kind = 2) (h1 : fcmpB .eql u.w 0 = false) (h2 : fcmpB .eql u.h 0 = false) : ¬ cnfW u := by
  rintro (⟨hk, _⟩ | ⟨_, hh⟩)
  · omega
  unfold ez at hh; rw [h1, h2] at hh; cases hh
theorem cnf_c {u : Win} (h : u.kind ≠ 3) (h1 : u.kind ≠ 2) : ¬ cnfW u := by
  rintro (⟨hk, _⟩ | ⟨hk, _⟩)
  · exact h hk
  exact h1 hk
theorem winE_0 {u : Win} (h : ¬ (u.kind ≠ 1 ∧ u.kind ≠ 2 ∧ u.kind ≠ 3)) (h2 : numW u = true) (h3 : outW u = false) (h4 : ¬ badP u) (h5 : anyF u.pts = false) (h6 : ¬ cnfW u) : 0 = winE u := by unfold winE; rw [if_neg h, if_neg (by rw [h2]; decide), if_neg (by rw [h3]; decide), if_neg h4, if_neg (by rw [h5]; decide), if_neg h6]

set_option maxHeartbeats 4000000 in
set_option maxRecDepth 100000 in
theorem checkWindow (u : Win) (A : Option Addr) (c : Nat) (W : World) (hA : PS W A u.pts) (hm : u.pts.length ≤ maxLen) : Fn_ Try.prog 74 #[.agg #[iv u.kind, flt u.x, flt u.y, flt u.w, flt u.h, flt u.soft, .slice A u.pts.length c, .bool u.out]] W (fun v H => v = iv (winE u) ∧ H = []) := by
  refine Fn_.intro Try.func74 rfl rfl (by rfl) ?_
  refine CS.seq ?_
  refine CS.region ?_
  refine RS.box rfl (by rfl) (by rfl) ?_
  intro g1
  refine RS.q rfl (QO.assign) ?_
  refine RS.nil ?_
  refine thenC_n ?_
  refine CS.seq ?_
  by_cases hsp1 : u.kind = 3
  · refine CS.region ?_
    refine RS.q rfl (QO.fieldAddr fo61_0 (by rfl)) ?_
    refine RS.q rfl (QO.load ty3 (by rfl) (by repeat (first | exact List.Mem.head _ | refine List.Mem.tail _ ?_)) (by rfl)) ?_
    refine RS.q rfl (QO.eql (by rfl) (by rfl)) ?_
    refine RS.q rfl (QO.assign) ?_
    refine RS.nil ?_
    refine thenC_n ?_
    refine CS.seq ?_
    refine CS.region ?_
    refine RS.q rfl (QO.assign) ?_
    refine RS.nil ?_
    refine thenC_n ?_
    refine CS.seq ?_
    refine CS.block ?_
    refine CS.seq ?_
    refine CS.region ?_
    refine RS.q rfl (QO.fieldAddr fo61_0 (by rfl)) ?_
    refine RS.q rfl (QO.load ty3 (by rfl) (by repeat (first | exact List.Mem.head _ | refine List.Mem.tail _ ?_)) (by rfl)) ?_
    refine RS.q rfl (QO.neq (by rfl) (by rfl)) ?_
    refine RS.q rfl (QO.move) ?_
    refine RS.split (dj := 12) (by rfl) (fun hb0 => ?_) (fun hb0 => ?_)
    · have hb0p := bne_iff_ne.1 hb0
      refine RS.on (dj := 12) rfl (congrArg Value.bool hb0) ?_
      refine RS.q rfl (QO.fieldAddr fo61_0 (by rfl)) ?_
      refine RS.on (dj := 12) rfl (congrArg Value.bool hb0) ?_
      refine RS.q rfl (QO.load ty3 (by rfl) (by repeat (first | exact List.Mem.head _ | refine List.Mem.tail _ ?_)) (by rfl)) ?_
      refine RS.on (dj := 12) rfl (congrArg Value.bool hb0) ?_
      refine RS.q rfl (QO.neq (by rfl) (by rfl)) ?_
      refine RS.q rfl (QO.pickT (by rfl) hb0 (by rfl)) ?_
      refine RS.q rfl (QO.move) ?_
      refine RS.split (dj := 17) (by rfl) (fun hb1 => ?_) (fun hb1 => ?_)
      · have hb1p := bne_iff_ne.1 hb1
        refine RS.on (dj := 17) rfl (congrArg Value.bool hb1) ?_
        refine RS.q rfl (QO.move) ?_
        refine RS.on (dj := 17) rfl (congrArg Value.bool hb1) ?_
        refine RS.q rfl (QO.not (by rfl)) ?_
        refine RS.q rfl (QO.pickT (by rfl) hb1 (by rfl)) ?_
        refine RS.q rfl (QO.assign) ?_
        refine RS.nil ?_
        refine thenC_n ?_
        refine CS.condF (by rfl) (by rw [(beq_iff_eq.2 hsp1)] <;> rfl) ?_
        refine CS.seq ?_
        refine CS.region ?_
        refine RS.q rfl (QO.fieldAddr fo61_1 (by rfl)) ?_
        refine RS.q rfl (QO.load ty29 (by rfl) (by repeat (first | exact List.Mem.head _ | refine List.Mem.tail _ ?_)) (by rfl)) ?_
        refine RS.q rfl (QO.fieldAddr fo61_2 (by rfl)) ?_
        refine RS.q rfl (QO.load ty29 (by rfl) (by repeat (first | exact List.Mem.head _ | refine List.Mem.tail _ ?_)) (by rfl)) ?_
        refine RS.q rfl (QO.fieldAddr fo61_3 (by rfl)) ?_
        refine RS.q rfl (QO.load ty29 (by rfl) (by repeat (first | exact List.Mem.head _ | refine List.Mem.tail _ ?_)) (by rfl)) ?_
        refine RS.q rfl (QO.fieldAddr fo61_4 (by rfl)) ?_
        refine RS.q rfl (QO.load ty29 (by rfl) (by repeat (first | exact List.Mem.head _ | refine List.Mem.tail _ ?_)) (by rfl)) ?_
        refine RS.q rfl (QO.fieldAddr fo61_5 (by rfl)) ?_
        refine RS.q rfl (QO.load ty29 (by rfl) (by repeat (first | exact List.Mem.head _ | refine List.Mem.tail _ ?_)) (by rfl)) ?_
        refine RS.buildSlice rfl Try.underlying24 ty29 (by decide) (by decide) (by rfl) (by rfl) ?_
        intro g32
        refine RS.call rfl (by rfl) ok128 (by rfl) (fun w ho => allNumbers (some ⟨g32, 0, none⟩) 5 5 [u.x, u.y, u.w, u.h, u.soft] _ rfl (FS.blk' (xs := [u.x, u.y, u.w, u.h, u.soft]) ho (by repeat (first | exact List.Mem.head _ | refine List.Mem.tail _ ?_))) (by decide)) ?_
        rintro _ _ ⟨rfl, rfl⟩
        refine RS.q rfl (QO.not (by rfl)) ?_
        refine RS.q rfl (QO.assign) ?_
        refine RS.nil ?_
        refine thenC_n ?_
        refine CS.cond (by rfl) (fun hb2 => ?_) (fun hb2 => ?_)
        · have hb2p := Eq.mp (Bool.not_eq_true' _) hb2
          refine CS.seq ?_
          refine CS.region ?_
          refine RS.q rfl (QO.assign) ?_
          refine RS.nil ?_
          refine thenC_n ?_
          refine CS.ret ?_
          refine blockC_r ?_
          refine thenC_r ?_
          refine retQ.mk (H' := []) (.inr rfl) (RVs.tmp (by rfl) RVs.nil) (List.nil_sublist _) ?_
          exact ⟨congrArg iv (winE_2 (by omega) (by unfold numW; assumption)), rfl⟩
        have hb2p := Eq.mp (Bool.not_eq_false' _) hb2
        refine CS.seq ?_
        refine CS.region ?_
        refine RS.q rfl (QO.move) ?_
        refine RS.q rfl (QO.fieldAddr fo61_1 (by rfl)) ?_
        refine RS.q rfl (QO.load ty29 (by rfl) (by repeat (first | exact List.Mem.head _ | refine List.Mem.tail _ ?_)) (by rfl)) ?_
        refine RS.call rfl (by rfl) ok127 (by rfl) (fun w ho => outW1 u.x 3380609024 1233125376 _) ?_
        rintro _ _ ⟨rfl, rfl⟩
        refine RS.q rfl (QO.move) ?_
        refine RS.split (dj := 40) (by rfl) (fun hb3 => ?_) (fun hb3 => ?_)
        · refine RS.off (dj := 40) rfl (.inl (congrArg Value.bool hb3)) (fun _ => rfl) rfl ?_
          refine RS.off (dj := 40) rfl (.inl (congrArg Value.bool hb3)) (fun _ => rfl) rfl ?_
          refine RS.off (dj := 40) rfl (.inl (congrArg Value.bool hb3)) (fun _ => rfl) rfl ?_
          refine RS.off (dj := 40) rfl (.inl (congrArg Value.bool hb3)) (fun _ => rfl) rfl ?_
          refine RS.q rfl (QO.pickT (by rfl) hb3 (by rfl)) ?_
          refine RS.q rfl (QO.move) ?_
          refine RS.off (dj := 46) rfl (.inl (congrArg Value.bool rfl)) (fun _ => rfl) rfl ?_
          refine RS.off (dj := 46) rfl (.inl (congrArg Value.bool rfl)) (fun _ => rfl) rfl ?_
          refine RS.off (dj := 46) rfl (.inl (congrArg Value.bool rfl)) (fun _ => rfl) rfl ?_
          refine RS.off (dj := 46) rfl (.inl (congrArg Value.bool rfl)) (fun _ => rfl) rfl ?_
          refine RS.q rfl (QO.pickT (by rfl) rfl (by rfl)) ?_
          refine RS.q rfl (QO.move) ?_
          refine RS.off (dj := 52) rfl (.inl (congrArg Value.bool rfl)) (fun _ => rfl) rfl ?_
          refine RS.off (dj := 52) rfl (.inl (congrArg Value.bool rfl)) (fun _ => rfl) rfl ?_
          refine RS.off (dj := 52) rfl (.inl (congrArg Value.bool rfl)) (fun _ => rfl) rfl ?_
          refine RS.off (dj := 52) rfl (.inl (congrArg Value.bool rfl)) (fun _ => rfl) rfl ?_
          refine RS.q rfl (QO.pickT (by rfl) rfl (by rfl)) ?_
          refine RS.q rfl (QO.move) ?_
          refine RS.off (dj := 58) rfl (.inl (congrArg Value.bool rfl)) (fun _ => rfl) rfl ?_
          refine RS.off (dj := 58) rfl (.inl (congrArg Value.bool rfl)) (fun _ => rfl) rfl ?_
          refine RS.off (dj := 58) rfl (.inl (congrArg Value.bool rfl)) (fun _ => rfl) rfl ?_
          refine RS.off (dj := 58) rfl (.inl (congrArg Value.bool rfl)) (fun _ => rfl) rfl ?_
          refine RS.q rfl (QO.pickT (by rfl) rfl (by rfl)) ?_
          refine RS.q rfl (QO.assign) ?_
          refine RS.nil ?_
          refine thenC_n ?_
          refine CS.condT (by rfl) rfl ?_
          refine CS.seq ?_
          refine CS.region ?_
          refine RS.q rfl (QO.assign) ?_
          refine RS.nil ?_
          refine thenC_n ?_
          refine CS.ret ?_
          refine blockC_r ?_
          refine thenC_r ?_
          refine retQ.mk (H' := []) (.inr rfl) (RVs.tmp (by rfl) RVs.nil) (List.nil_sublist _) ?_
          exact ⟨congrArg iv (winE_3 (by omega) (by unfold numW; assumption) (outW_1 (by assumption))), rfl⟩
        refine RS.on (dj := 40) rfl (congrArg Value.bool hb3) ?_
        refine RS.q rfl (QO.move) ?_
        refine RS.on (dj := 40) rfl (congrArg Value.bool hb3) ?_
        refine RS.q rfl (QO.fieldAddr fo61_2 (by rfl)) ?_
        refine RS.on (dj := 40) rfl (congrArg Value.bool hb3) ?_
        refine RS.q rfl (QO.load ty29 (by rfl) (by repeat (first | exact List.Mem.head _ | refine List.Mem.tail _ ?_)) (by rfl)) ?_
        refine RS.on (dj := 40) rfl (congrArg Value.bool hb3) ?_
        refine RS.call rfl (by rfl) ok127 (by rfl) (fun w ho => outW1 u.y 3380609024 1233125376 _) ?_
        rintro _ _ ⟨rfl, rfl⟩
        refine RS.q rfl (QO.pickF (by rfl) hb3 (by rfl)) ?_
        refine RS.q rfl (QO.move) ?_
        refine RS.split (dj := 46) (by rfl) (fun hb4 => ?_) (fun hb4 => ?_)
        · refine RS.off (dj := 46) rfl (.inl (congrArg Value.bool hb4)) (fun _ => rfl) rfl ?_
          refine RS.off (dj := 46) rfl (.inl (congrArg Value.bool hb4)) (fun _ => rfl) rfl ?_
          refine RS.off (dj := 46) rfl (.inl (congrArg Value.bool hb4)) (fun _ => rfl) rfl ?_
          refine RS.off (dj := 46) rfl (.inl (congrArg Value.bool hb4)) (fun _ => rfl) rfl ?_
          refine RS.q rfl (QO.pickT (by rfl) hb4 (by rfl)) ?_
          refine RS.q rfl (QO.move) ?_
          refine RS.off (dj := 52) rfl (.inl (congrArg Value.bool rfl)) (fun _ => rfl) rfl ?_
          refine RS.off (dj := 52) rfl (.inl (congrArg Value.bool rfl)) (fun _ => rfl) rfl ?_
          refine RS.off (dj := 52) rfl (.inl (congrArg Value.bool rfl)) (fun _ => rfl) rfl ?_
          refine RS.off (dj := 52) rfl (.inl (congrArg Value.bool rfl)) (fun _ => rfl) rfl ?_
          refine RS.q rfl (QO.pickT (by rfl) rfl (by rfl)) ?_
          refine RS.q rfl (QO.move) ?_
          refine RS.off (dj := 58) rfl (.inl (congrArg Value.bool rfl)) (fun _ => rfl) rfl ?_
          refine RS.off (dj := 58) rfl (.inl (congrArg Value.bool rfl)) (fun _ => rfl) rfl ?_
          refine RS.off (dj := 58) rfl (.inl (congrArg Value.bool rfl)) (fun _ => rfl) rfl ?_
          refine RS.off (dj := 58) rfl (.inl (congrArg Value.bool rfl)) (fun _ => rfl) rfl ?_
          refine RS.q rfl (QO.pickT (by rfl) rfl (by rfl)) ?_
          refine RS.q rfl (QO.assign) ?_
          refine RS.nil ?_
          refine thenC_n ?_
          refine CS.condT (by rfl) rfl ?_
          refine CS.seq ?_
          refine CS.region ?_
          refine RS.q rfl (QO.assign) ?_
          refine RS.nil ?_
          refine thenC_n ?_
          refine CS.ret ?_
          refine blockC_r ?_
          refine thenC_r ?_
          refine retQ.mk (H' := []) (.inr rfl) (RVs.tmp (by rfl) RVs.nil) (List.nil_sublist _) ?_
          exact ⟨congrArg iv (winE_3 (by omega) (by unfold numW; assumption) (outW_2 (by assumption))), rfl⟩
        refine RS.on (dj := 46) rfl (congrArg Value.bool hb4) ?_
        refine RS.q rfl (QO.move) ?_
        refine RS.on (dj := 46) rfl (congrArg Value.bool hb4) ?_
        refine RS.q rfl (QO.fieldAddr fo61_3 (by rfl)) ?_
        refine RS.on (dj := 46) rfl (congrArg Value.bool hb4) ?_
        refine RS.q rfl (QO.load ty29 (by rfl) (by repeat (first | exact List.Mem.head _ | refine List.Mem.tail _ ?_)) (by rfl)) ?_
        refine RS.on (dj := 46) rfl (congrArg Value.bool hb4) ?_
        refine RS.call rfl (by rfl) ok127 (by rfl) (fun w ho => outW1 u.w 0 1233125376 _) ?_
        rintro _ _ ⟨rfl, rfl⟩
        refine RS.q rfl (QO.pickF (by rfl) hb4 (by rfl)) ?_
        refine RS.q rfl (QO.move) ?_
        refine RS.split (dj := 52) (by rfl) (fun hb5 => ?_) (fun hb5 => ?_)
        · refine RS.off (dj := 52) rfl (.inl (congrArg Value.bool hb5)) (fun _ => rfl) rfl ?_
          refine RS.off (dj := 52) rfl (.inl (congrArg Value.bool hb5)) (fun _ => rfl) rfl ?_
          refine RS.off (dj := 52) rfl (.inl (congrArg Value.bool hb5)) (fun _ => rfl) rfl ?_
          refine RS.off (dj := 52) rfl (.inl (congrArg Value.bool hb5)) (fun _ => rfl) rfl ?_
          refine RS.q rfl (QO.pickT (by rfl) hb5 (by rfl)) ?_
          refine RS.q rfl (QO.move) ?_
          refine RS.off (dj := 58) rfl (.inl (congrArg Value.bool rfl)) (fun _ => rfl) rfl ?_
          refine RS.off (dj := 58) rfl (.inl (congrArg Value.bool rfl)) (fun _ => rfl) rfl ?_
          refine RS.off (dj := 58) rfl (.inl (congrArg Value.bool rfl)) (fun _ => rfl) rfl ?_
          refine RS.off (dj := 58) rfl (.inl (congrArg Value.bool rfl)) (fun _ => rfl) rfl ?_
          refine RS.q rfl (QO.pickT (by rfl) rfl (by rfl)) ?_
          refine RS.q rfl (QO.assign) ?_
          refine RS.nil ?_
          refine thenC_n ?_
          refine CS.condT (by rfl) rfl ?_
          refine CS.seq ?_
          refine CS.region ?_
          refine RS.q rfl (QO.assign) ?_
          refine RS.nil ?_
          refine thenC_n ?_
          refine CS.ret ?_
          refine blockC_r ?_
          refine thenC_r ?_
          refine retQ.mk (H' := []) (.inr rfl) (RVs.tmp (by rfl) RVs.nil) (List.nil_sublist _) ?_
          exact ⟨congrArg iv (winE_3 (by omega) (by unfold numW; assumption) (outW_3 (by assumption))), rfl⟩
        refine RS.on (dj := 52) rfl (congrArg Value.bool hb5) ?_
        refine RS.q rfl (QO.move) ?_
        refine RS.on (dj := 52) rfl (congrArg Value.bool hb5) ?_
        refine RS.q rfl (QO.fieldAddr fo61_4 (by rfl)) ?_
        refine RS.on (dj := 52) rfl (congrArg Value.bool hb5) ?_
        refine RS.q rfl (QO.load ty29 (by rfl) (by repeat (first | exact List.Mem.head _ | refine List.Mem.tail _ ?_)) (by rfl)) ?_
        refine RS.on (dj := 52) rfl (congrArg Value.bool hb5) ?_
        refine RS.call rfl (by rfl) ok127 (by rfl) (fun w ho => outW1 u.h 0 1233125376 _) ?_
        rintro _ _ ⟨rfl, rfl⟩
        refine RS.q rfl (QO.pickF (by rfl) hb5 (by rfl)) ?_
        refine RS.q rfl (QO.move) ?_
        refine RS.split (dj := 58) (by rfl) (fun hb6 => ?_) (fun hb6 => ?_)
        · refine RS.off (dj := 58) rfl (.inl (congrArg Value.bool hb6)) (fun _ => rfl) rfl ?_
          refine RS.off (dj := 58) rfl (.inl (congrArg Value.bool hb6)) (fun _ => rfl) rfl ?_
          refine RS.off (dj := 58) rfl (.inl (congrArg Value.bool hb6)) (fun _ => rfl) rfl ?_
          refine RS.off (dj := 58) rfl (.inl (congrArg Value.bool hb6)) (fun _ => rfl) rfl ?_
          refine RS.q rfl (QO.pickT (by rfl) hb6 (by rfl)) ?_
          refine RS.q rfl (QO.assign) ?_
          refine RS.nil ?_
          refine thenC_n ?_
          refine CS.condT (by rfl) rfl ?_
          refine CS.seq ?_
          refine CS.region ?_
          refine RS.q rfl (QO.assign) ?_
          refine RS.nil ?_
          refine thenC_n ?_
          refine CS.ret ?_
          refine blockC_r ?_
          refine thenC_r ?_
          refine retQ.mk (H' := []) (.inr rfl) (RVs.tmp (by rfl) RVs.nil) (List.nil_sublist _) ?_
          exact ⟨congrArg iv (winE_3 (by omega) (by unfold numW; assumption) (outW_4 (by assumption))), rfl⟩
        refine RS.on (dj := 58) rfl (congrArg Value.bool hb6) ?_
        refine RS.q rfl (QO.move) ?_
        refine RS.on (dj := 58) rfl (congrArg Value.bool hb6) ?_
        refine RS.q rfl (QO.fieldAddr fo61_5 (by rfl)) ?_
        refine RS.on (dj := 58) rfl (congrArg Value.bool hb6) ?_
        refine RS.q rfl (QO.load ty29 (by rfl) (by repeat (first | exact List.Mem.head _ | refine List.Mem.tail _ ?_)) (by rfl)) ?_
        refine RS.on (dj := 58) rfl (congrArg Value.bool hb6) ?_
        refine RS.call rfl (by rfl) ok127 (by rfl) (fun w ho => outW1 u.soft 0 1166016512 _) ?_
        rintro _ _ ⟨rfl, rfl⟩
        refine RS.q rfl (QO.pickF (by rfl) hb6 (by rfl)) ?_
        refine RS.q rfl (QO.assign) ?_
        refine RS.nil ?_
        refine thenC_n ?_
        refine CS.cond (by rfl) (fun hb7 => ?_) (fun hb7 => ?_)
        · refine CS.seq ?_
          refine CS.region ?_
          refine RS.q rfl (QO.assign) ?_
          refine RS.nil ?_
          refine thenC_n ?_
          refine CS.ret ?_
          refine blockC_r ?_
          refine thenC_r ?_
          refine retQ.mk (H' := []) (.inr rfl) (RVs.tmp (by rfl) RVs.nil) (List.nil_sublist _) ?_
          exact ⟨congrArg iv (winE_3 (by omega) (by unfold numW; assumption) (outW_5 (by assumption))), rfl⟩
        refine CS.seq ?_
        refine CS.region ?_
        refine RS.q rfl (QO.move) ?_
        refine RS.q rfl (QO.move) ?_
        refine RS.on (dj := 66) rfl (congrArg Value.bool (beq_iff_eq.2 hsp1)) ?_
        refine RS.q rfl (QO.fieldAddr fo61_6 (by rfl)) ?_
        refine RS.on (dj := 66) rfl (congrArg Value.bool (beq_iff_eq.2 hsp1)) ?_
        refine RS.q rfl (QO.load ty59 (by rfl) (by repeat (first | exact List.Mem.head _ | refine List.Mem.tail _ ?_)) (by rfl)) ?_
        refine RS.on (dj := 66) rfl (congrArg Value.bool (beq_iff_eq.2 hsp1)) ?_
        refine RS.q rfl (QO.lenS Try.underlying59 (by rfl)) ?_
        refine RS.on (dj := 66) rfl (congrArg Value.bool (beq_iff_eq.2 hsp1)) ?_
        refine RS.q rfl (QO.lss (by rfl) (by rfl)) ?_
        refine RS.on (dj := 66) rfl (congrArg Value.bool (beq_iff_eq.2 hsp1)) ?_
        refine RS.q rfl (QO.move) ?_
        refine RS.split (dj := 71) (by rfl) (fun hb8 => ?_) (fun hb8 => ?_)
        · have hb8p := of_decide_eq_true hb8
          refine RS.off (dj := 71) rfl (.inl (congrArg Value.bool hb8)) (fun _ => rfl) rfl ?_
          refine RS.off (dj := 71) rfl (.inl (congrArg Value.bool hb8)) (fun _ => rfl) rfl ?_
          refine RS.off (dj := 71) rfl (.inl (congrArg Value.bool hb8)) (fun _ => rfl) rfl ?_
          refine RS.off (dj := 71) rfl (.inl (congrArg Value.bool hb8)) (fun _ => rfl) rfl ?_
          refine RS.on (dj := 66) rfl (congrArg Value.bool (beq_iff_eq.2 hsp1)) ?_
          refine RS.q rfl (QO.pickT (by rfl) hb8 (by rfl)) ?_
          refine RS.q rfl (QO.pickT (by rfl) (beq_iff_eq.2 hsp1) (by rfl)) ?_
          refine RS.q rfl (QO.move) ?_
          refine RS.off (dj := 78) rfl (.inl (congrArg Value.bool rfl)) (fun _ => rfl) rfl ?_
          refine RS.off (dj := 78) rfl (.inl (congrArg Value.bool rfl)) (fun _ => rfl) rfl ?_
          refine RS.off (dj := 78) rfl (.inl (congrArg Value.bool rfl)) (fun _ => rfl) rfl ?_
          refine RS.off (dj := 81) (c := false) rfl (.inr rfl) (fun h => by cases h) rfl ?_
          refine RS.off (dj := 81) (c := false) rfl (.inr rfl) (fun h => by cases h) rfl ?_
          refine RS.off (dj := 81) (c := false) rfl (.inr rfl) (fun h => by cases h) rfl ?_
          refine RS.off (dj := 81) (c := false) rfl (.inr rfl) (fun h => by cases h) rfl ?_
          refine RS.off (dj := 78) rfl (.inl (congrArg Value.bool rfl)) (fun _ => rfl) rfl ?_
          refine RS.q rfl (QO.pickT (by rfl) rfl (by rfl)) ?_
          refine RS.q rfl (QO.assign) ?_
          refine RS.nil ?_
          refine thenC_n ?_
          refine CS.condT (by rfl) rfl ?_
          refine CS.seq ?_
          refine CS.region ?_
          refine RS.q rfl (QO.assign) ?_
          refine RS.nil ?_
          refine thenC_n ?_
          refine CS.ret ?_
          refine blockC_r ?_
          refine thenC_r ?_
          refine retQ.mk (H' := []) (.inr rfl) (RVs.tmp (by rfl) RVs.nil) (List.nil_sublist _) ?_
          exact ⟨congrArg iv (winE_4 (by omega) (by unfold numW; assumption) (outW_f (by assumption) (by assumption) (by assumption) (by assumption) (by assumption)) (by unfold badP; omega)), rfl⟩
        have hb8p := of_decide_eq_false hb8
        refine RS.on (dj := 71) rfl (congrArg Value.bool hb8) ?_
        refine RS.q rfl (QO.fieldAddr fo61_6 (by rfl)) ?_
        refine RS.on (dj := 71) rfl (congrArg Value.bool hb8) ?_
        refine RS.q rfl (QO.load ty59 (by rfl) (by repeat (first | exact List.Mem.head _ | refine List.Mem.tail _ ?_)) (by rfl)) ?_
        refine RS.on (dj := 71) rfl (congrArg Value.bool hb8) ?_
        refine RS.q rfl (QO.lenS Try.underlying59 (by rfl)) ?_
        refine RS.on (dj := 71) rfl (congrArg Value.bool hb8) ?_
        refine RS.q rfl (QO.gtr (by rfl) (by rfl)) ?_
        refine RS.on (dj := 66) rfl (congrArg Value.bool (beq_iff_eq.2 hsp1)) ?_
        refine RS.q rfl (QO.pickF (by rfl) hb8 (by rfl)) ?_
        refine RS.q rfl (QO.pickT (by rfl) (beq_iff_eq.2 hsp1) (by rfl)) ?_
        refine RS.q rfl (QO.move) ?_
        refine RS.split (dj := 78) (by rfl) (fun hb9 => ?_) (fun hb9 => ?_)
        · have hb9p := of_decide_eq_true hb9
          refine RS.off (dj := 78) rfl (.inl (congrArg Value.bool hb9)) (fun _ => rfl) rfl ?_
          refine RS.off (dj := 78) rfl (.inl (congrArg Value.bool hb9)) (fun _ => rfl) rfl ?_
          refine RS.off (dj := 78) rfl (.inl (congrArg Value.bool hb9)) (fun _ => rfl) rfl ?_
          refine RS.off (dj := 81) (c := false) rfl (.inr rfl) (fun h => by cases h) rfl ?_
          refine RS.off (dj := 81) (c := false) rfl (.inr rfl) (fun h => by cases h) rfl ?_
          refine RS.off (dj := 81) (c := false) rfl (.inr rfl) (fun h => by cases h) rfl ?_
          refine RS.off (dj := 81) (c := false) rfl (.inr rfl) (fun h => by cases h) rfl ?_
          refine RS.off (dj := 78) rfl (.inl (congrArg Value.bool hb9)) (fun _ => rfl) rfl ?_
          refine RS.q rfl (QO.pickT (by rfl) hb9 (by rfl)) ?_
          refine RS.q rfl (QO.assign) ?_
          refine RS.nil ?_
          refine thenC_n ?_
          refine CS.condT (by rfl) rfl ?_
          refine CS.seq ?_
          refine CS.region ?_
          refine RS.q rfl (QO.assign) ?_
          refine RS.nil ?_
          refine thenC_n ?_
          refine CS.ret ?_
          refine blockC_r ?_
          refine thenC_r ?_
          refine retQ.mk (H' := []) (.inr rfl) (RVs.tmp (by rfl) RVs.nil) (List.nil_sublist _) ?_
          exact ⟨congrArg iv (winE_4 (by omega) (by unfold numW; assumption) (outW_f (by assumption) (by assumption) (by assumption) (by assumption) (by assumption)) (by unfold badP; omega)), rfl⟩
        have hb9p := of_decide_eq_false hb9
        refine RS.on (dj := 78) rfl (congrArg Value.bool hb9) ?_
        refine RS.q rfl (QO.move) ?_
        refine RS.on (dj := 78) rfl (congrArg Value.bool hb9) ?_
        refine RS.q rfl (QO.not (by rfl)) ?_
        refine RS.on (dj := 78) rfl (congrArg Value.bool hb9) ?_
        refine RS.q rfl (QO.move) ?_
        refine RS.off (dj := 81) rfl (.inl (congrArg Value.bool (by rw [(beq_iff_eq.2 hsp1)] <;> rfl))) (fun _ => rfl) rfl ?_
        refine RS.off (dj := 81) rfl (.inl (congrArg Value.bool (by rw [(beq_iff_eq.2 hsp1)] <;> rfl))) (fun _ => rfl) rfl ?_
        refine RS.off (dj := 81) rfl (.inl (congrArg Value.bool (by rw [(beq_iff_eq.2 hsp1)] <;> rfl))) (fun _ => rfl) rfl ?_
        refine RS.off (dj := 81) rfl (.inl (congrArg Value.bool (by rw [(beq_iff_eq.2 hsp1)] <;> rfl))) (fun _ => rfl) rfl ?_
        refine RS.on (dj := 78) rfl (congrArg Value.bool hb9) ?_
        refine RS.q rfl (QO.pickF (by rfl) (by rw [(beq_iff_eq.2 hsp1)] <;> rfl) (by rfl)) ?_
        refine RS.q rfl (QO.pickF (by rfl) hb9 (by rfl)) ?_
        refine RS.q rfl (QO.assign) ?_
        refine RS.nil ?_
        refine thenC_n ?_
        refine CS.condF (by rfl) rfl ?_
        refine CS.seq ?_
        refine CS.region ?_
        refine RS.q rfl (QO.fieldAddr fo61_6 (by rfl)) ?_
        refine RS.q rfl (QO.load ty59 (by rfl) (by repeat (first | exact List.Mem.head _ | refine List.Mem.tail _ ?_)) (by rfl)) ?_
        refine RS.call rfl (by rfl) ok123 (by rfl) (fun w ho => containsP A c u.pts _ (hA.own ho) hm) ?_
        rintro _ _ ⟨rfl, rfl⟩
        refine RS.q rfl (QO.assign) ?_
        refine RS.nil ?_
        refine thenC_n ?_
        refine CS.cond (by rfl) (fun hb10 => ?_) (fun hb10 => ?_)
        · refine CS.seq ?_
          refine CS.region ?_
          refine RS.q rfl (QO.assign) ?_
          refine RS.nil ?_
          refine thenC_n ?_
          refine CS.ret ?_
          refine blockC_r ?_
          refine thenC_r ?_
          refine retQ.mk (H' := []) (.inr rfl) (RVs.tmp (by rfl) RVs.nil) (List.nil_sublist _) ?_
          exact ⟨congrArg iv (winE_5 (by omega) (by unfold numW; assumption) (outW_f (by assumption) (by assumption) (by assumption) (by assumption) (by assumption)) (by unfold badP; omega) (by assumption)), rfl⟩
        refine CS.seq ?_
        refine CS.seq ?_
        refine CS.region ?_
        refine RS.q rfl (QO.move) ?_
        refine RS.q rfl (QO.move) ?_
        refine RS.on (dj := 94) rfl (congrArg Value.bool (beq_iff_eq.2 hsp1)) ?_
        refine RS.q rfl (QO.fieldAddr fo61_1 (by rfl)) ?_
        refine RS.on (dj := 94) rfl (congrArg Value.bool (beq_iff_eq.2 hsp1)) ?_
        refine RS.q rfl (QO.load ty29 (by rfl) (by repeat (first | exact List.Mem.head _ | refine List.Mem.tail _ ?_)) (by rfl)) ?_
        refine RS.on (dj := 94) rfl (congrArg Value.bool (beq_iff_eq.2 hsp1)) ?_
        refine RS.q rfl (QO.fcmp32 (by rfl) (by rfl) (by simp)) ?_
        refine RS.on (dj := 94) rfl (congrArg Value.bool (beq_iff_eq.2 hsp1)) ?_
        refine RS.q rfl (QO.move) ?_
        refine RS.split (dj := 98) (by rfl) (fun hb11 => ?_) (fun hb11 => ?_)
        · refine RS.off (dj := 98) rfl (.inl (congrArg Value.bool hb11)) (fun _ => rfl) rfl ?_
          refine RS.off (dj := 98) rfl (.inl (congrArg Value.bool hb11)) (fun _ => rfl) rfl ?_
          refine RS.off (dj := 98) rfl (.inl (congrArg Value.bool hb11)) (fun _ => rfl) rfl ?_
          refine RS.on (dj := 94) rfl (congrArg Value.bool (beq_iff_eq.2 hsp1)) ?_
          refine RS.q rfl (QO.pickT (by rfl) hb11 (by rfl)) ?_
          refine RS.on (dj := 94) rfl (congrArg Value.bool (beq_iff_eq.2 hsp1)) ?_
          refine RS.q rfl (QO.move) ?_
          refine RS.off (dj := 103) rfl (.inl (congrArg Value.bool rfl)) (fun _ => rfl) rfl ?_
          refine RS.off (dj := 103) rfl (.inl (congrArg Value.bool rfl)) (fun _ => rfl) rfl ?_
          refine RS.off (dj := 103) rfl (.inl (congrArg Value.bool rfl)) (fun _ => rfl) rfl ?_
          refine RS.on (dj := 94) rfl (congrArg Value.bool (beq_iff_eq.2 hsp1)) ?_
          refine RS.q rfl (QO.pickT (by rfl) rfl (by rfl)) ?_
          refine RS.on (dj := 94) rfl (congrArg Value.bool (beq_iff_eq.2 hsp1)) ?_
          refine RS.q rfl (QO.move) ?_
          refine RS.off (dj := 108) rfl (.inl (congrArg Value.bool rfl)) (fun _ => rfl) rfl ?_
          refine RS.off (dj := 108) rfl (.inl (congrArg Value.bool rfl)) (fun _ => rfl) rfl ?_
          refine RS.off (dj := 108) rfl (.inl (congrArg Value.bool rfl)) (fun _ => rfl) rfl ?_
          refine RS.on (dj := 94) rfl (congrArg Value.bool (beq_iff_eq.2 hsp1)) ?_
          refine RS.q rfl (QO.pickT (by rfl) rfl (by rfl)) ?_
          refine RS.on (dj := 94) rfl (congrArg Value.bool (beq_iff_eq.2 hsp1)) ?_
          refine RS.q rfl (QO.move) ?_
          refine RS.off (dj := 113) rfl (.inl (congrArg Value.bool rfl)) (fun _ => rfl) rfl ?_
          refine RS.off (dj := 113) rfl (.inl (congrArg Value.bool rfl)) (fun _ => rfl) rfl ?_
          refine RS.off (dj := 113) rfl (.inl (congrArg Value.bool rfl)) (fun _ => rfl) rfl ?_
          refine RS.on (dj := 94) rfl (congrArg Value.bool (beq_iff_eq.2 hsp1)) ?_
          refine RS.q rfl (QO.pickT (by rfl) rfl (by rfl)) ?_
          refine RS.q rfl (QO.pickT (by rfl) (beq_iff_eq.2 hsp1) (by rfl)) ?_
          refine RS.q rfl (QO.assign) ?_
          refine RS.nil ?_
          refine thenC_n ?_
          refine CS.condT (by rfl) rfl ?_
          refine CS.skip ?_
          refine thenC_n ?_
          refine CS.condT (by rfl) rfl ?_
          refine CS.seq ?_
          refine CS.region ?_
          refine RS.q rfl (QO.assign) ?_
          refine RS.nil ?_
          refine thenC_n ?_
          refine CS.ret ?_
          refine blockC_r ?_
          refine thenC_r ?_
          refine retQ.mk (H' := []) (.inr rfl) (RVs.tmp (by rfl) RVs.nil) (List.nil_sublist _) ?_
          exact ⟨congrArg iv (winE_6 (by omega) (by unfold numW; assumption) (outW_f (by assumption) (by assumption) (by assumption) (by assumption) (by assumption)) (by unfold badP; omega) (by assumption) (cnf_1 (by assumption) (by assumption))), rfl⟩
        refine RS.on (dj := 98) rfl (congrArg Value.bool hb11) ?_
        refine RS.q rfl (QO.fieldAddr fo61_2 (by rfl)) ?_
        refine RS.on (dj := 98) rfl (congrArg Value.bool hb11) ?_
        refine RS.q rfl (QO.load ty29 (by rfl) (by repeat (first | exact List.Mem.head _ | refine List.Mem.tail _ ?_)) (by rfl)) ?_
        refine RS.on (dj := 98) rfl (congrArg Value.bool hb11) ?_
        refine RS.q rfl (QO.fcmp32 (by rfl) (by rfl) (by simp)) ?_
        refine RS.on (dj := 94) rfl (congrArg Value.bool (beq_iff_eq.2 hsp1)) ?_
        refine RS.q rfl (QO.pickF (by rfl) hb11 (by rfl)) ?_
        refine RS.on (dj := 94) rfl (congrArg Value.bool (beq_iff_eq.2 hsp1)) ?_
        refine RS.q rfl (QO.move) ?_
        refine RS.split (dj := 103) (by rfl) (fun hb12 => ?_) (fun hb12 => ?_)
        · refine RS.off (dj := 103) rfl (.inl (congrArg Value.bool hb12)) (fun _ => rfl) rfl ?_
          refine RS.off (dj := 103) rfl (.inl (congrArg Value.bool hb12)) (fun _ => rfl) rfl ?_
          refine RS.off (dj := 103) rfl (.inl (congrArg Value.bool hb12)) (fun _ => rfl) rfl ?_
          refine RS.on (dj := 94) rfl (congrArg Value.bool (beq_iff_eq.2 hsp1)) ?_
          refine RS.q rfl (QO.pickT (by rfl) hb12 (by rfl)) ?_
          refine RS.on (dj := 94) rfl (congrArg Value.bool (beq_iff_eq.2 hsp1)) ?_
          refine RS.q rfl (QO.move) ?_
          refine RS.off (dj := 108) rfl (.inl (congrArg Value.bool rfl)) (fun _ => rfl) rfl ?_
          refine RS.off (dj := 108) rfl (.inl (congrArg Value.bool rfl)) (fun _ => rfl) rfl ?_
          refine RS.off (dj := 108) rfl (.inl (congrArg Value.bool rfl)) (fun _ => rfl) rfl ?_
          refine RS.on (dj := 94) rfl (congrArg Value.bool (beq_iff_eq.2 hsp1)) ?_
          refine RS.q rfl (QO.pickT (by rfl) rfl (by rfl)) ?_
          refine RS.on (dj := 94) rfl (congrArg Value.bool (beq_iff_eq.2 hsp1)) ?_
          refine RS.q rfl (QO.move) ?_
          refine RS.off (dj := 113) rfl (.inl (congrArg Value.bool rfl)) (fun _ => rfl) rfl ?_
          refine RS.off (dj := 113) rfl (.inl (congrArg Value.bool rfl)) (fun _ => rfl) rfl ?_
          refine RS.off (dj := 113) rfl (.inl (congrArg Value.bool rfl)) (fun _ => rfl) rfl ?_
          refine RS.on (dj := 94) rfl (congrArg Value.bool (beq_iff_eq.2 hsp1)) ?_
          refine RS.q rfl (QO.pickT (by rfl) rfl (by rfl)) ?_
          refine RS.q rfl (QO.pickT (by rfl) (beq_iff_eq.2 hsp1) (by rfl)) ?_
          refine RS.q rfl (QO.assign) ?_
          refine RS.nil ?_
          refine thenC_n ?_
          refine CS.condT (by rfl) rfl ?_
          refine CS.skip ?_
          refine thenC_n ?_
          refine CS.condT (by rfl) rfl ?_
          refine CS.seq ?_
          refine CS.region ?_
          refine RS.q rfl (QO.assign) ?_
          refine RS.nil ?_
          refine thenC_n ?_
          refine CS.ret ?_
          refine blockC_r ?_
          refine thenC_r ?_
          refine retQ.mk (H' := []) (.inr rfl) (RVs.tmp (by rfl) RVs.nil) (List.nil_sublist _) ?_
          exact ⟨congrArg iv (winE_6 (by omega) (by unfold numW; assumption) (outW_f (by assumption) (by assumption) (by assumption) (by assumption) (by assumption)) (by unfold badP; omega) (by assumption) (cnf_2 (by assumption) (by assumption))), rfl⟩
        refine RS.on (dj := 103) rfl (congrArg Value.bool hb12) ?_
        refine RS.q rfl (QO.fieldAddr fo61_3 (by rfl)) ?_
        refine RS.on (dj := 103) rfl (congrArg Value.bool hb12) ?_
        refine RS.q rfl (QO.load ty29 (by rfl) (by repeat (first | exact List.Mem.head _ | refine List.Mem.tail _ ?_)) (by rfl)) ?_
        refine RS.on (dj := 103) rfl (congrArg Value.bool hb12) ?_
        refine RS.q rfl (QO.fcmp32 (by rfl) (by rfl) (by simp)) ?_
        refine RS.on (dj := 94) rfl (congrArg Value.bool (beq_iff_eq.2 hsp1)) ?_
        refine RS.q rfl (QO.pickF (by rfl) hb12 (by rfl)) ?_
        refine RS.on (dj := 94) rfl (congrArg Value.bool (beq_iff_eq.2 hsp1)) ?_
        refine RS.q rfl (QO.move) ?_
        refine RS.split (dj := 108) (by rfl) (fun hb13 => ?_) (fun hb13 => ?_)
        · refine RS.off (dj := 108) rfl (.inl (congrArg Value.bool hb13)) (fun _ => rfl) rfl ?_
          refine RS.off (dj := 108) rfl (.inl (congrArg Value.bool hb13)) (fun _ => rfl) rfl ?_
          refine RS.off (dj := 108) rfl (.inl (congrArg Value.bool hb13)) (fun _ => rfl) rfl ?_
          refine RS.on (dj := 94) rfl (congrArg Value.bool (beq_iff_eq.2 hsp1)) ?_
          refine RS.q rfl (QO.pickT (by rfl) hb13 (by rfl)) ?_
          refine RS.on (dj := 94) rfl (congrArg Value.bool (beq_iff_eq.2 hsp1)) ?_
          refine RS.q rfl (QO.move) ?_
          refine RS.off (dj := 113) rfl (.inl (congrArg Value.bool rfl)) (fun _ => rfl) rfl ?_
          refine RS.off (dj := 113) rfl (.inl (congrArg Value.bool rfl)) (fun _ => rfl) rfl ?_
          refine RS.off (dj := 113) rfl (.inl (congrArg Value.bool rfl)) (fun _ => rfl) rfl ?_
          refine RS.on (dj := 94) rfl (congrArg Value.bool (beq_iff_eq.2 hsp1)) ?_
          refine RS.q rfl (QO.pickT (by rfl) rfl (by rfl)) ?_
          refine RS.q rfl (QO.pickT (by rfl) (beq_iff_eq.2 hsp1) (by rfl)) ?_
          refine RS.q rfl (QO.assign) ?_
          refine RS.nil ?_
          refine thenC_n ?_
          refine CS.condT (by rfl) rfl ?_
          refine CS.skip ?_
          refine thenC_n ?_
          refine CS.condT (by rfl) rfl ?_
          refine CS.seq ?_
          refine CS.region ?_
          refine RS.q rfl (QO.assign) ?_
          refine RS.nil ?_
          refine thenC_n ?_
          refine CS.ret ?_
          refine blockC_r ?_
          refine thenC_r ?_
          refine retQ.mk (H' := []) (.inr rfl) (RVs.tmp (by rfl) RVs.nil) (List.nil_sublist _) ?_
          exact ⟨congrArg iv (winE_6 (by omega) (by unfold numW; assumption) (outW_f (by assumption) (by assumption) (by assumption) (by assumption) (by assumption)) (by unfold badP; omega) (by assumption) (cnf_3 (by assumption) (by assumption))), rfl⟩
        refine RS.on (dj := 108) rfl (congrArg Value.bool hb13) ?_
        refine RS.q rfl (QO.fieldAddr fo61_4 (by rfl)) ?_
        refine RS.on (dj := 108) rfl (congrArg Value.bool hb13) ?_
        refine RS.q rfl (QO.load ty29 (by rfl) (by repeat (first | exact List.Mem.head _ | refine List.Mem.tail _ ?_)) (by rfl)) ?_
        refine RS.on (dj := 108) rfl (congrArg Value.bool hb13) ?_
        refine RS.q rfl (QO.fcmp32 (by rfl) (by rfl) (by simp)) ?_
        refine RS.on (dj := 94) rfl (congrArg Value.bool (beq_iff_eq.2 hsp1)) ?_
        refine RS.q rfl (QO.pickF (by rfl) hb13 (by rfl)) ?_
        refine RS.on (dj := 94) rfl (congrArg Value.bool (beq_iff_eq.2 hsp1)) ?_
        refine RS.q rfl (QO.move) ?_
        refine RS.split (dj := 113) (by rfl) (fun hb14 => ?_) (fun hb14 => ?_)
        · refine RS.off (dj := 113) rfl (.inl (congrArg Value.bool hb14)) (fun _ => rfl) rfl ?_
          refine RS.off (dj := 113) rfl (.inl (congrArg Value.bool hb14)) (fun _ => rfl) rfl ?_
          refine RS.off (dj := 113) rfl (.inl (congrArg Value.bool hb14)) (fun _ => rfl) rfl ?_
          refine RS.on (dj := 94) rfl (congrArg Value.bool (beq_iff_eq.2 hsp1)) ?_
          refine RS.q rfl (QO.pickT (by rfl) hb14 (by rfl)) ?_
          refine RS.q rfl (QO.pickT (by rfl) (beq_iff_eq.2 hsp1) (by rfl)) ?_
          refine RS.q rfl (QO.assign) ?_
          refine RS.nil ?_
          refine thenC_n ?_
          refine CS.condT (by rfl) rfl ?_
          refine CS.skip ?_
          refine thenC_n ?_
          refine CS.condT (by rfl) rfl ?_
          refine CS.seq ?_
          refine CS.region ?_
          refine RS.q rfl (QO.assign) ?_
          refine RS.nil ?_
          refine thenC_n ?_
          refine CS.ret ?_
          refine blockC_r ?_
          refine thenC_r ?_
          refine retQ.mk (H' := []) (.inr rfl) (RVs.tmp (by rfl) RVs.nil) (List.nil_sublist _) ?_
          exact ⟨congrArg iv (winE_6 (by omega) (by unfold numW; assumption) (outW_f (by assumption) (by assumption) (by assumption) (by assumption) (by assumption)) (by unfold badP; omega) (by assumption) (cnf_4 (by assumption) (by assumption))), rfl⟩
        refine RS.on (dj := 113) rfl (congrArg Value.bool hb14) ?_
        refine RS.q rfl (QO.fieldAddr fo61_5 (by rfl)) ?_
        refine RS.on (dj := 113) rfl (congrArg Value.bool hb14) ?_
        refine RS.q rfl (QO.load ty29 (by rfl) (by repeat (first | exact List.Mem.head _ | refine List.Mem.tail _ ?_)) (by rfl)) ?_
        refine RS.on (dj := 113) rfl (congrArg Value.bool hb14) ?_
        refine RS.q rfl (QO.fcmp32 (by rfl) (by rfl) (by simp)) ?_
        refine RS.on (dj := 94) rfl (congrArg Value.bool (beq_iff_eq.2 hsp1)) ?_
        refine RS.q rfl (QO.pickF (by rfl) hb14 (by rfl)) ?_
        refine RS.q rfl (QO.pickT (by rfl) (beq_iff_eq.2 hsp1) (by rfl)) ?_
        refine RS.q rfl (QO.assign) ?_
        refine RS.nil ?_
        refine thenC_n ?_
        refine CS.cond (by rfl) (fun hb15 => ?_) (fun hb15 => ?_)
        · refine CS.skip ?_
          refine thenC_n ?_
          refine CS.condT (by rfl) hb15 ?_
          refine CS.seq ?_
          refine CS.region ?_
          refine RS.q rfl (QO.assign) ?_
          refine RS.nil ?_
          refine thenC_n ?_
          refine CS.ret ?_
          refine blockC_r ?_
          refine thenC_r ?_
          refine retQ.mk (H' := []) (.inr rfl) (RVs.tmp (by rfl) RVs.nil) (List.nil_sublist _) ?_
          exact ⟨congrArg iv (winE_6 (by omega) (by unfold numW; assumption) (outW_f (by assumption) (by assumption) (by assumption) (by assumption) (by assumption)) (by unfold badP; omega) (by assumption) (cnf_5 (by assumption) (by assumption))), rfl⟩
        refine CS.region ?_
        refine RS.q rfl (QO.fieldAddr fo61_0 (by rfl)) ?_
        refine RS.q rfl (QO.load ty3 (by rfl) (by repeat (first | exact List.Mem.head _ | refine List.Mem.tail _ ?_)) (by rfl)) ?_
        refine RS.q rfl (QO.eql (by rfl) (by rfl)) ?_
        refine RS.q rfl (QO.move) ?_
        refine RS.split (dj := 122) (by rfl) (fun hb16 => ?_) (fun hb16 => ?_)
        · have hb16p := eq_of_beq hb16
          refine RS.on (dj := 122) rfl (congrArg Value.bool hb16) ?_
          refine RS.q rfl (QO.fieldAddr fo61_3 (by rfl)) ?_
          refine RS.on (dj := 122) rfl (congrArg Value.bool hb16) ?_
          refine RS.q rfl (QO.load ty29 (by rfl) (by repeat (first | exact List.Mem.head _ | refine List.Mem.tail _ ?_)) (by rfl)) ?_
          refine RS.on (dj := 122) rfl (congrArg Value.bool hb16) ?_
          refine RS.q rfl (QO.fcmp32 (by rfl) (by rfl) (by simp)) ?_
          refine RS.on (dj := 122) rfl (congrArg Value.bool hb16) ?_
          refine RS.q rfl (QO.move) ?_
          refine RS.split (dj := 126) (by rfl) (fun hb17 => ?_) (fun hb17 => ?_)
          · refine RS.off (dj := 126) rfl (.inl (congrArg Value.bool hb17)) (fun _ => rfl) rfl ?_
            refine RS.off (dj := 126) rfl (.inl (congrArg Value.bool hb17)) (fun _ => rfl) rfl ?_
            refine RS.off (dj := 126) rfl (.inl (congrArg Value.bool hb17)) (fun _ => rfl) rfl ?_
            refine RS.on (dj := 122) rfl (congrArg Value.bool hb16) ?_
            refine RS.q rfl (QO.pickT (by rfl) hb17 (by rfl)) ?_
            refine RS.q rfl (QO.pickT (by rfl) hb16 (by rfl)) ?_
            refine RS.q rfl (QO.assign) ?_
            refine RS.nil ?_
            refine thenC_n ?_
            refine CS.condT (by rfl) rfl ?_
            refine CS.seq ?_
            refine CS.region ?_
            refine RS.q rfl (QO.assign) ?_
            refine RS.nil ?_
            refine thenC_n ?_
            refine CS.ret ?_
            refine blockC_r ?_
            refine thenC_r ?_
            refine retQ.mk (H' := []) (.inr rfl) (RVs.tmp (by rfl) RVs.nil) (List.nil_sublist _) ?_
            exact ⟨congrArg iv (winE_6 (by omega) (by unfold numW; assumption) (outW_f (by assumption) (by assumption) (by assumption) (by assumption) (by assumption)) (by unfold badP; omega) (by assumption) (cnf_6 (by assumption) (by assumption))), rfl⟩
          refine RS.on (dj := 126) rfl (congrArg Value.bool hb17) ?_
          refine RS.q rfl (QO.fieldAddr fo61_4 (by rfl)) ?_
          refine RS.on (dj := 126) rfl (congrArg Value.bool hb17) ?_
          refine RS.q rfl (QO.load ty29 (by rfl) (by repeat (first | exact List.Mem.head _ | refine List.Mem.tail _ ?_)) (by rfl)) ?_
          refine RS.on (dj := 126) rfl (congrArg Value.bool hb17) ?_
          refine RS.q rfl (QO.fcmp32 (by rfl) (by rfl) (by simp)) ?_
          refine RS.on (dj := 122) rfl (congrArg Value.bool hb16) ?_
          refine RS.q rfl (QO.pickF (by rfl) hb17 (by rfl)) ?_
          refine RS.q rfl (QO.pickT (by rfl) hb16 (by rfl)) ?_
          refine RS.q rfl (QO.assign) ?_
          refine RS.nil ?_
          refine thenC_n ?_
          refine CS.cond (by rfl) (fun hb18 => ?_) (fun hb18 => ?_)
          · refine CS.seq ?_
            refine CS.region ?_
            refine RS.q rfl (QO.assign) ?_
            refine RS.nil ?_
            refine thenC_n ?_
            refine CS.ret ?_
            refine blockC_r ?_
            refine thenC_r ?_
            refine retQ.mk (H' := []) (.inr rfl) (RVs.tmp (by rfl) RVs.nil) (List.nil_sublist _) ?_
            exact ⟨congrArg iv (winE_6 (by omega) (by unfold numW; assumption) (outW_f (by assumption) (by assumption) (by assumption) (by assumption) (by assumption)) (by unfold badP; omega) (by assumption) (cnf_7 (by assumption) (by assumption))), rfl⟩
          refine CS.skip ?_
          refine blockC_n ?_
          refine thenC_n ?_
          refine CS.seq ?_
          refine CS.region ?_
          refine RS.q rfl (QO.assign) ?_
          refine RS.nil ?_
          refine thenC_n ?_
          refine CS.ret ?_
          refine retQ.mk (H' := []) (.inr rfl) (RVs.tmp (by rfl) RVs.nil) (List.nil_sublist _) ?_
          exact ⟨congrArg iv (winE_0 (by omega) (by unfold numW; assumption) (outW_f (by assumption) (by assumption) (by assumption) (by assumption) (by assumption)) (by unfold badP; omega) (by assumption) (cnf_a (by assumption) (by assumption) (by assumption) (by assumption) (by assumption) (by assumption))), rfl⟩
        have hb16p := ne_of_beq_false hb16
        refine RS.off (dj := 122) rfl (.inl (congrArg Value.bool hb16)) (fun _ => rfl) rfl ?_
        refine RS.off (dj := 122) rfl (.inl (congrArg Value.bool hb16)) (fun _ => rfl) rfl ?_
        refine RS.off (dj := 122) rfl (.inl (congrArg Value.bool hb16)) (fun _ => rfl) rfl ?_
        refine RS.off (dj := 122) rfl (.inl (congrArg Value.bool hb16)) (fun _ => rfl) rfl ?_
        refine RS.off (dj := 126) (c := true) rfl (.inr rfl) (fun h => by cases h) rfl ?_
        refine RS.off (dj := 126) (c := true) rfl (.inr rfl) (fun h => by cases h) rfl ?_
        refine RS.off (dj := 126) (c := true) rfl (.inr rfl) (fun h => by cases h) rfl ?_
        refine RS.off (dj := 122) rfl (.inl (congrArg Value.bool hb16)) (fun _ => rfl) rfl ?_
        refine RS.q rfl (QO.pickF (by rfl) hb16 (by rfl)) ?_
        refine RS.q rfl (QO.assign) ?_
        refine RS.nil ?_
        refine thenC_n ?_
        refine CS.condF (by rfl) rfl ?_
        refine CS.skip ?_
        refine blockC_n ?_
        refine thenC_n ?_
        refine CS.seq ?_
        refine CS.region ?_
        refine RS.q rfl (QO.assign) ?_
        refine RS.nil ?_
        refine thenC_n ?_
        refine CS.ret ?_
        refine retQ.mk (H' := []) (.inr rfl) (RVs.tmp (by rfl) RVs.nil) (List.nil_sublist _) ?_
        exact ⟨congrArg iv (winE_0 (by omega) (by unfold numW; assumption) (outW_f (by assumption) (by assumption) (by assumption) (by assumption) (by assumption)) (by unfold badP; omega) (by assumption) (cnf_a (by assumption) (by assumption) (by assumption) (by assumption) (by assumption) (by assumption))), rfl⟩
      have hb1p := of_bne_false hb1
      refine RS.off (dj := 17) rfl (.inl (congrArg Value.bool hb1)) (fun _ => rfl) rfl ?_
      refine RS.off (dj := 17) rfl (.inl (congrArg Value.bool hb1)) (fun _ => rfl) rfl ?_
      refine RS.q rfl (QO.pickF (by rfl) hb1 (by rfl)) ?_
      refine RS.q rfl (QO.assign) ?_
      refine RS.nil ?_
      refine thenC_n ?_
      refine CS.condF (by rfl) rfl ?_
      refine CS.seq ?_
      refine CS.region ?_
      refine RS.q rfl (QO.fieldAddr fo61_1 (by rfl)) ?_
      refine RS.q rfl (QO.load ty29 (by rfl) (by repeat (first | exact List.Mem.head _ | refine List.Mem.tail _ ?_)) (by rfl)) ?_
      refine RS.q rfl (QO.fieldAddr fo61_2 (by rfl)) ?_
      refine RS.q rfl (QO.load ty29 (by rfl) (by repeat (first | exact List.Mem.head _ | refine List.Mem.tail _ ?_)) (by rfl)) ?_
      refine RS.q rfl (QO.fieldAddr fo61_3 (by rfl)) ?_
      refine RS.q rfl (QO.load ty29 (by rfl) (by repeat (first | exact List.Mem.head _ | refine List.Mem.tail _ ?_)) (by rfl)) ?_
      refine RS.q rfl (QO.fieldAddr fo61_4 (by rfl)) ?_
      refine RS.q rfl (QO.load ty29 (by rfl) (by repeat (first | exact List.Mem.head _ | refine List.Mem.tail _ ?_)) (by rfl)) ?_
      refine RS.q rfl (QO.fieldAddr fo61_5 (by rfl)) ?_
      refine RS.q rfl (QO.load ty29 (by rfl) (by repeat (first | exact List.Mem.head _ | refine List.Mem.tail _ ?_)) (by rfl)) ?_
      refine RS.buildSlice rfl Try.underlying24 ty29 (by decide) (by decide) (by rfl) (by rfl) ?_
      intro g32
      refine RS.call rfl (by rfl) ok128 (by rfl) (fun w ho => allNumbers (some ⟨g32, 0, none⟩) 5 5 [u.x, u.y, u.w, u.h, u.soft] _ rfl (FS.blk' (xs := [u.x, u.y, u.w, u.h, u.soft]) ho (by repeat (first | exact List.Mem.head _ | refine List.Mem.tail _ ?_))) (by decide)) ?_
      rintro _ _ ⟨rfl, rfl⟩
      refine RS.q rfl (QO.not (by rfl)) ?_
      refine RS.q rfl (QO.assign) ?_
      refine RS.nil ?_
      refine thenC_n ?_
      refine CS.cond (by rfl) (fun hb19 => ?_) (fun hb19 => ?_)
      · have hb19p := Eq.mp (Bool.not_eq_true' _) hb19
        refine CS.seq ?_
        refine CS.region ?_
        refine RS.q rfl (QO.assign) ?_
        refine RS.nil ?_
        refine thenC_n ?_
        refine CS.ret ?_
        refine blockC_r ?_
        refine thenC_r ?_
        refine retQ.mk (H' := []) (.inr rfl) (RVs.tmp (by rfl) RVs.nil) (List.nil_sublist _) ?_
        exact ⟨congrArg iv (winE_2 (by omega) (by unfold numW; assumption)), rfl⟩
      have hb19p := Eq.mp (Bool.not_eq_false' _) hb19
      refine CS.seq ?_
      refine CS.region ?_
      refine RS.q rfl (QO.move) ?_
      refine RS.q rfl (QO.fieldAddr fo61_1 (by rfl)) ?_
      refine RS.q rfl (QO.load ty29 (by rfl) (by repeat (first | exact List.Mem.head _ | refine List.Mem.tail _ ?_)) (by rfl)) ?_
      refine RS.call rfl (by rfl) ok127 (by rfl) (fun w ho => outW1 u.x 3380609024 1233125376 _) ?_
      rintro _ _ ⟨rfl, rfl⟩
      refine RS.q rfl (QO.move) ?_
      refine RS.split (dj := 40) (by rfl) (fun hb20 => ?_) (fun hb20 => ?_)
      · refine RS.off (dj := 40) rfl (.inl (congrArg Value.bool hb20)) (fun _ => rfl) rfl ?_
        refine RS.off (dj := 40) rfl (.inl (congrArg Value.bool hb20)) (fun _ => rfl) rfl ?_
        refine RS.off (dj := 40) rfl (.inl (congrArg Value.bool hb20)) (fun _ => rfl) rfl ?_
        refine RS.off (dj := 40) rfl (.inl (congrArg Value.bool hb20)) (fun _ => rfl) rfl ?_
        refine RS.q rfl (QO.pickT (by rfl) hb20 (by rfl)) ?_
        refine RS.q rfl (QO.move) ?_
        refine RS.off (dj := 46) rfl (.inl (congrArg Value.bool rfl)) (fun _ => rfl) rfl ?_
        refine RS.off (dj := 46) rfl (.inl (congrArg Value.bool rfl)) (fun _ => rfl) rfl ?_
        refine RS.off (dj := 46) rfl (.inl (congrArg Value.bool rfl)) (fun _ => rfl) rfl ?_
        refine RS.off (dj := 46) rfl (.inl (congrArg Value.bool rfl)) (fun _ => rfl) rfl ?_
        refine RS.q rfl (QO.pickT (by rfl) rfl (by rfl)) ?_
        refine RS.q rfl (QO.move) ?_
        refine RS.off (dj := 52) rfl (.inl (congrArg Value.bool rfl)) (fun _ => rfl) rfl ?_
        refine RS.off (dj := 52) rfl (.inl (congrArg Value.bool rfl)) (fun _ => rfl) rfl ?_
        refine RS.off (dj := 52) rfl (.inl (congrArg Value.bool rfl)) (fun _ => rfl) rfl ?_
        refine RS.off (dj := 52) rfl (.inl (congrArg Value.bool rfl)) (fun _ => rfl) rfl ?_
        refine RS.q rfl (QO.pickT (by rfl) rfl (by rfl)) ?_
        refine RS.q rfl (QO.move) ?_
        refine RS.off (dj := 58) rfl (.inl (congrArg Value.bool rfl)) (fun _ => rfl) rfl ?_
        refine RS.off (dj := 58) rfl (.inl (congrArg Value.bool rfl)) (fun _ => rfl) rfl ?_
        refine RS.off (dj := 58) rfl (.inl (congrArg Value.bool rfl)) (fun _ => rfl) rfl ?_
        refine RS.off (dj := 58) rfl (.inl (congrArg Value.bool rfl)) (fun _ => rfl) rfl ?_
        refine RS.q rfl (QO.pickT (by rfl) rfl (by rfl)) ?_
        refine RS.q rfl (QO.assign) ?_
        refine RS.nil ?_
        refine thenC_n ?_
        refine CS.condT (by rfl) rfl ?_
        refine CS.seq ?_
        refine CS.region ?_
        refine RS.q rfl (QO.assign) ?_
        refine RS.nil ?_
        refine thenC_n ?_
        refine CS.ret ?_
        refine blockC_r ?_
        refine thenC_r ?_
        refine retQ.mk (H' := []) (.inr rfl) (RVs.tmp (by rfl) RVs.nil) (List.nil_sublist _) ?_
        exact ⟨congrArg iv (winE_3 (by omega) (by unfold numW; assumption) (outW_1 (by assumption))), rfl⟩
      refine RS.on (dj := 40) rfl (congrArg Value.bool hb20) ?_
      refine RS.q rfl (QO.move) ?_
      refine RS.on (dj := 40) rfl (congrArg Value.bool hb20) ?_
      refine RS.q rfl (QO.fieldAddr fo61_2 (by rfl)) ?_
      refine RS.on (dj := 40) rfl (congrArg Value.bool hb20) ?_
      refine RS.q rfl (QO.load ty29 (by rfl) (by repeat (first | exact List.Mem.head _ | refine List.Mem.tail _ ?_)) (by rfl)) ?_
      refine RS.on (dj := 40) rfl (congrArg Value.bool hb20) ?_
      refine RS.call rfl (by rfl) ok127 (by rfl) (fun w ho => outW1 u.y 3380609024 1233125376 _) ?_
      rintro _ _ ⟨rfl, rfl⟩
      refine RS.q rfl (QO.pickF (by rfl) hb20 (by rfl)) ?_
      refine RS.q rfl (QO.move) ?_
      refine RS.split (dj := 46) (by rfl) (fun hb21 => ?_) (fun hb21 => ?_)
      · refine RS.off (dj := 46) rfl (.inl (congrArg Value.bool hb21)) (fun _ => rfl) rfl ?_
        refine RS.off (dj := 46) rfl (.inl (congrArg Value.bool hb21)) (fun _ => rfl) rfl ?_
        refine RS.off (dj := 46) rfl (.inl (congrArg Value.bool hb21)) (fun _ => rfl) rfl ?_
        refine RS.off (dj := 46) rfl (.inl (congrArg Value.bool hb21)) (fun _ => rfl) rfl ?_
        refine RS.q rfl (QO.pickT (by rfl) hb21 (by rfl)) ?_
        refine RS.q rfl (QO.move) ?_
        refine RS.off (dj := 52) rfl (.inl (congrArg Value.bool rfl)) (fun _ => rfl) rfl ?_
        refine RS.off (dj := 52) rfl (.inl (congrArg Value.bool rfl)) (fun _ => rfl) rfl ?_
        refine RS.off (dj := 52) rfl (.inl (congrArg Value.bool rfl)) (fun _ => rfl) rfl ?_
        refine RS.off (dj := 52) rfl (.inl (congrArg Value.bool rfl)) (fun _ => rfl) rfl ?_
        refine RS.q rfl (QO.pickT (by rfl) rfl (by rfl)) ?_
        refine RS.q rfl (QO.move) ?_
        refine RS.off (dj := 58) rfl (.inl (congrArg Value.bool rfl)) (fun _ => rfl) rfl ?_
        refine RS.off (dj := 58) rfl (.inl (congrArg Value.bool rfl)) (fun _ => rfl) rfl ?_
        refine RS.off (dj := 58) rfl (.inl (congrArg Value.bool rfl)) (fun _ => rfl) rfl ?_
        refine RS.off (dj := 58) rfl (.inl (congrArg Value.bool rfl)) (fun _ => rfl) rfl ?_
        refine RS.q rfl (QO.pickT (by rfl) rfl (by rfl)) ?_
        refine RS.q rfl (QO.assign) ?_
        refine RS.nil ?_
        refine thenC_n ?_
        refine CS.condT (by rfl) rfl ?_
        refine CS.seq ?_
        refine CS.region ?_
        refine RS.q rfl (QO.assign) ?_
        refine RS.nil ?_
        refine thenC_n ?_
        refine CS.ret ?_
        refine blockC_r ?_
        refine thenC_r ?_
        refine retQ.mk (H' := []) (.inr rfl) (RVs.tmp (by rfl) RVs.nil) (List.nil_sublist _) ?_
        exact ⟨congrArg iv (winE_3 (by omega) (by unfold numW; assumption) (outW_2 (by assumption))), rfl⟩
      refine RS.on (dj := 46) rfl (congrArg Value.bool hb21) ?_
      refine RS.q rfl (QO.move) ?_
      refine RS.on (dj := 46) rfl (congrArg Value.bool hb21) ?_
      refine RS.q rfl (QO.fieldAddr fo61_3 (by rfl)) ?_
      refine RS.on (dj := 46) rfl (congrArg Value.bool hb21) ?_
      refine RS.q rfl (QO.load ty29 (by rfl) (by repeat (first | exact List.Mem.head _ | refine List.Mem.tail _ ?_)) (by rfl)) ?_
      refine RS.on (dj := 46) rfl (congrArg Value.bool hb21) ?_
      refine RS.call rfl (by rfl) ok127 (by rfl) (fun w ho => outW1 u.w 0 1233125376 _) ?_
      rintro _ _ ⟨rfl, rfl⟩
      refine RS.q rfl (QO.pickF (by rfl) hb21 (by rfl)) ?_
      refine RS.q rfl (QO.move) ?_
      refine RS.split (dj := 52) (by rfl) (fun hb22 => ?_) (fun hb22 => ?_)
      · refine RS.off (dj := 52) rfl (.inl (congrArg Value.bool hb22)) (fun _ => rfl) rfl ?_
        refine RS.off (dj := 52) rfl (.inl (congrArg Value.bool hb22)) (fun _ => rfl) rfl ?_
        refine RS.off (dj := 52) rfl (.inl (congrArg Value.bool hb22)) (fun _ => rfl) rfl ?_
        refine RS.off (dj := 52) rfl (.inl (congrArg Value.bool hb22)) (fun _ => rfl) rfl ?_
        refine RS.q rfl (QO.pickT (by rfl) hb22 (by rfl)) ?_
        refine RS.q rfl (QO.move) ?_
        refine RS.off (dj := 58) rfl (.inl (congrArg Value.bool rfl)) (fun _ => rfl) rfl ?_
        refine RS.off (dj := 58) rfl (.inl (congrArg Value.bool rfl)) (fun _ => rfl) rfl ?_
        refine RS.off (dj := 58) rfl (.inl (congrArg Value.bool rfl)) (fun _ => rfl) rfl ?_
        refine RS.off (dj := 58) rfl (.inl (congrArg Value.bool rfl)) (fun _ => rfl) rfl ?_
        refine RS.q rfl (QO.pickT (by rfl) rfl (by rfl)) ?_
        refine RS.q rfl (QO.assign) ?_
        refine RS.nil ?_
        refine thenC_n ?_
        refine CS.condT (by rfl) rfl ?_
        refine CS.seq ?_
        refine CS.region ?_
        refine RS.q rfl (QO.assign) ?_
        refine RS.nil ?_
        refine thenC_n ?_
        refine CS.ret ?_
        refine blockC_r ?_
        refine thenC_r ?_
        refine retQ.mk (H' := []) (.inr rfl) (RVs.tmp (by rfl) RVs.nil) (List.nil_sublist _) ?_
        exact ⟨congrArg iv (winE_3 (by omega) (by unfold numW; assumption) (outW_3 (by assumption))), rfl⟩
      refine RS.on (dj := 52) rfl (congrArg Value.bool hb22) ?_
      refine RS.q rfl (QO.move) ?_
      refine RS.on (dj := 52) rfl (congrArg Value.bool hb22) ?_
      refine RS.q rfl (QO.fieldAddr fo61_4 (by rfl)) ?_
      refine RS.on (dj := 52) rfl (congrArg Value.bool hb22) ?_
      refine RS.q rfl (QO.load ty29 (by rfl) (by repeat (first | exact List.Mem.head _ | refine List.Mem.tail _ ?_)) (by rfl)) ?_
      refine RS.on (dj := 52) rfl (congrArg Value.bool hb22) ?_
      refine RS.call rfl (by rfl) ok127 (by rfl) (fun w ho => outW1 u.h 0 1233125376 _) ?_
      rintro _ _ ⟨rfl, rfl⟩
      refine RS.q rfl (QO.pickF (by rfl) hb22 (by rfl)) ?_
      refine RS.q rfl (QO.move) ?_
      refine RS.split (dj := 58) (by rfl) (fun hb23 => ?_) (fun hb23 => ?_)
      · refine RS.off (dj := 58) rfl (.inl (congrArg Value.bool hb23)) (fun _ => rfl) rfl ?_
        refine RS.off (dj := 58) rfl (.inl (congrArg Value.bool hb23)) (fun _ => rfl) rfl ?_
        refine RS.off (dj := 58) rfl (.inl (congrArg Value.bool hb23)) (fun _ => rfl) rfl ?_
        refine RS.off (dj := 58) rfl (.inl (congrArg Value.bool hb23)) (fun _ => rfl) rfl ?_
        refine RS.q rfl (QO.pickT (by rfl) hb23 (by rfl)) ?_
        refine RS.q rfl (QO.assign) ?_
        refine RS.nil ?_
        refine thenC_n ?_
        refine CS.condT (by rfl) rfl ?_
        refine CS.seq ?_
        refine CS.region ?_
        refine RS.q rfl (QO.assign) ?_
        refine RS.nil ?_
        refine thenC_n ?_
        refine CS.ret ?_
        refine blockC_r ?_
        refine thenC_r ?_
        refine retQ.mk (H' := []) (.inr rfl) (RVs.tmp (by rfl) RVs.nil) (List.nil_sublist _) ?_
        exact ⟨congrArg iv (winE_3 (by omega) (by unfold numW; assumption) (outW_4 (by assumption))), rfl⟩
      refine RS.on (dj := 58) rfl (congrArg Value.bool hb23) ?_
      refine RS.q rfl (QO.move) ?_
      refine RS.on (dj := 58) rfl (congrArg Value.bool hb23) ?_
      refine RS.q rfl (QO.fieldAddr fo61_5 (by rfl)) ?_
      refine RS.on (dj := 58) rfl (congrArg Value.bool hb23) ?_
      refine RS.q rfl (QO.load ty29 (by rfl) (by repeat (first | exact List.Mem.head _ | refine List.Mem.tail _ ?_)) (by rfl)) ?_
      refine RS.on (dj := 58) rfl (congrArg Value.bool hb23) ?_
      refine RS.call rfl (by rfl) ok127 (by rfl) (fun w ho => outW1 u.soft 0 1166016512 _) ?_
      rintro _ _ ⟨rfl, rfl⟩
      refine RS.q rfl (QO.pickF (by rfl) hb23 (by rfl)) ?_
      refine RS.q rfl (QO.assign) ?_
      refine RS.nil ?_
      refine thenC_n ?_
      refine CS.cond (by rfl) (fun hb24 => ?_) (fun hb24 => ?_)
      · refine CS.seq ?_
        refine CS.region ?_
        refine RS.q rfl (QO.assign) ?_
        refine RS.nil ?_
        refine thenC_n ?_
        refine CS.ret ?_
        refine blockC_r ?_
        refine thenC_r ?_
        refine retQ.mk (H' := []) (.inr rfl) (RVs.tmp (by rfl) RVs.nil) (List.nil_sublist _) ?_
        exact ⟨congrArg iv (winE_3 (by omega) (by unfold numW; assumption) (outW_5 (by assumption))), rfl⟩
      refine CS.seq ?_
      refine CS.region ?_
      refine RS.q rfl (QO.move) ?_
      refine RS.q rfl (QO.move) ?_
      refine RS.on (dj := 66) rfl (congrArg Value.bool (beq_iff_eq.2 hsp1)) ?_
      refine RS.q rfl (QO.fieldAddr fo61_6 (by rfl)) ?_
      refine RS.on (dj := 66) rfl (congrArg Value.bool (beq_iff_eq.2 hsp1)) ?_
      refine RS.q rfl (QO.load ty59 (by rfl) (by repeat (first | exact List.Mem.head _ | refine List.Mem.tail _ ?_)) (by rfl)) ?_
      refine RS.on (dj := 66) rfl (congrArg Value.bool (beq_iff_eq.2 hsp1)) ?_
      refine RS.q rfl (QO.lenS Try.underlying59 (by rfl)) ?_
      refine RS.on (dj := 66) rfl (congrArg Value.bool (beq_iff_eq.2 hsp1)) ?_
      refine RS.q rfl (QO.lss (by rfl) (by rfl)) ?_
      refine RS.on (dj := 66) rfl (congrArg Value.bool (beq_iff_eq.2 hsp1)) ?_
      refine RS.q rfl (QO.move) ?_
      refine RS.split (dj := 71) (by rfl) (fun hb25 => ?_) (fun hb25 => ?_)
      · have hb25p := of_decide_eq_true hb25
        refine RS.off (dj := 71) rfl (.inl (congrArg Value.bool hb25)) (fun _ => rfl) rfl ?_
        refine RS.off (dj := 71) rfl (.inl (congrArg Value.bool hb25)) (fun _ => rfl) rfl ?_
        refine RS.off (dj := 71) rfl (.inl (congrArg Value.bool hb25)) (fun _ => rfl) rfl ?_
        refine RS.off (dj := 71) rfl (.inl (congrArg Value.bool hb25)) (fun _ => rfl) rfl ?_
        refine RS.on (dj := 66) rfl (congrArg Value.bool (beq_iff_eq.2 hsp1)) ?_
        refine RS.q rfl (QO.pickT (by rfl) hb25 (by rfl)) ?_
        refine RS.q rfl (QO.pickT (by rfl) (beq_iff_eq.2 hsp1) (by rfl)) ?_
        refine RS.q rfl (QO.move) ?_
        refine RS.off (dj := 78) rfl (.inl (congrArg Value.bool rfl)) (fun _ => rfl) rfl ?_
        refine RS.off (dj := 78) rfl (.inl (congrArg Value.bool rfl)) (fun _ => rfl) rfl ?_
        refine RS.off (dj := 78) rfl (.inl (congrArg Value.bool rfl)) (fun _ => rfl) rfl ?_
        refine RS.off (dj := 81) (c := false) rfl (.inr rfl) (fun h => by cases h) rfl ?_
        refine RS.off (dj := 81) (c := false) rfl (.inr rfl) (fun h => by cases h) rfl ?_
        refine RS.off (dj := 81) (c := false) rfl (.inr rfl) (fun h => by cases h) rfl ?_
        refine RS.off (dj := 81) (c := false) rfl (.inr rfl) (fun h => by cases h) rfl ?_
        refine RS.off (dj := 78) rfl (.inl (congrArg Value.bool rfl)) (fun _ => rfl) rfl ?_
        refine RS.q rfl (QO.pickT (by rfl) rfl (by rfl)) ?_
        refine RS.q rfl (QO.assign) ?_
        refine RS.nil ?_
        refine thenC_n ?_
        refine CS.condT (by rfl) rfl ?_
        refine CS.seq ?_
        refine CS.region ?_
        refine RS.q rfl (QO.assign) ?_
        refine RS.nil ?_
        refine thenC_n ?_
        refine CS.ret ?_
        refine blockC_r ?_
        refine thenC_r ?_
        refine retQ.mk (H' := []) (.inr rfl) (RVs.tmp (by rfl) RVs.nil) (List.nil_sublist _) ?_
        exact ⟨congrArg iv (winE_4 (by omega) (by unfold numW; assumption) (outW_f (by assumption) (by assumption) (by assumption) (by assumption) (by assumption)) (by unfold badP; omega)), rfl⟩
      have hb25p := of_decide_eq_false hb25
      refine RS.on (dj := 71) rfl (congrArg Value.bool hb25) ?_
      refine RS.q rfl (QO.fieldAddr fo61_6 (by rfl)) ?_
      refine RS.on (dj := 71) rfl (congrArg Value.bool hb25) ?_
      refine RS.q rfl (QO.load ty59 (by rfl) (by repeat (first | exact List.Mem.head _ | refine List.Mem.tail _ ?_)) (by rfl)) ?_
      refine RS.on (dj := 71) rfl (congrArg Value.bool hb25) ?_
      refine RS.q rfl (QO.lenS Try.underlying59 (by rfl)) ?_
      refine RS.on (dj := 71) rfl (congrArg Value.bool hb25) ?_
      refine RS.q rfl (QO.gtr (by rfl) (by rfl)) ?_
      refine RS.on (dj := 66) rfl (congrArg Value.bool (beq_iff_eq.2 hsp1)) ?_
      refine RS.q rfl (QO.pickF (by rfl) hb25 (by rfl)) ?_
      refine RS.q rfl (QO.pickT (by rfl) (beq_iff_eq.2 hsp1) (by rfl)) ?_
      refine RS.q rfl (QO.move) ?_
      refine RS.split (dj := 78) (by rfl) (fun hb26 => ?_) (fun hb26 => ?_)
      · have hb26p := of_decide_eq_true hb26
        refine RS.off (dj := 78) rfl (.inl (congrArg Value.bool hb26)) (fun _ => rfl) rfl ?_
        refine RS.off (dj := 78) rfl (.inl (congrArg Value.bool hb26)) (fun _ => rfl) rfl ?_
        refine RS.off (dj := 78) rfl (.inl (congrArg Value.bool hb26)) (fun _ => rfl) rfl ?_
        refine RS.off (dj := 81) (c := false) rfl (.inr rfl) (fun h => by cases h) rfl ?_
        refine RS.off (dj := 81) (c := false) rfl (.inr rfl) (fun h => by cases h) rfl ?_
        refine RS.off (dj := 81) (c := false) rfl (.inr rfl) (fun h => by cases h) rfl ?_
        refine RS.off (dj := 81) (c := false) rfl (.inr rfl) (fun h => by cases h) rfl ?_
        refine RS.off (dj := 78) rfl (.inl (congrArg Value.bool hb26)) (fun _ => rfl) rfl ?_
        refine RS.q rfl (QO.pickT (by rfl) hb26 (by rfl)) ?_
        refine RS.q rfl (QO.assign) ?_
        refine RS.nil ?_
        refine thenC_n ?_
        refine CS.condT (by rfl) rfl ?_
        refine CS.seq ?_
        refine CS.region ?_
        refine RS.q rfl (QO.assign) ?_
        refine RS.nil ?_
        refine thenC_n ?_
        refine CS.ret ?_
        refine blockC_r ?_
        refine thenC_r ?_
        refine retQ.mk (H' := []) (.inr rfl) (RVs.tmp (by rfl) RVs.nil) (List.nil_sublist _) ?_
        exact ⟨congrArg iv (winE_4 (by omega) (by unfold numW; assumption) (outW_f (by assumption) (by assumption) (by assumption) (by assumption) (by assumption)) (by unfold badP; omega)), rfl⟩
      have hb26p := of_decide_eq_false hb26
      refine RS.on (dj := 78) rfl (congrArg Value.bool hb26) ?_
      refine RS.q rfl (QO.move) ?_
      refine RS.on (dj := 78) rfl (congrArg Value.bool hb26) ?_
      refine RS.q rfl (QO.not (by rfl)) ?_
      refine RS.on (dj := 78) rfl (congrArg Value.bool hb26) ?_
      refine RS.q rfl (QO.move) ?_
      refine RS.off (dj := 81) rfl (.inl (congrArg Value.bool (by rw [(beq_iff_eq.2 hsp1)] <;> rfl))) (fun _ => rfl) rfl ?_
      refine RS.off (dj := 81) rfl (.inl (congrArg Value.bool (by rw [(beq_iff_eq.2 hsp1)] <;> rfl))) (fun _ => rfl) rfl ?_
      refine RS.off (dj := 81) rfl (.inl (congrArg Value.bool (by rw [(beq_iff_eq.2 hsp1)] <;> rfl))) (fun _ => rfl) rfl ?_
      refine RS.off (dj := 81) rfl (.inl (congrArg Value.bool (by rw [(beq_iff_eq.2 hsp1)] <;> rfl))) (fun _ => rfl) rfl ?_
      refine RS.on (dj := 78) rfl (congrArg Value.bool hb26) ?_
      refine RS.q rfl (QO.pickF (by rfl) (by rw [(beq_iff_eq.2 hsp1)] <;> rfl) (by rfl)) ?_
      refine RS.q rfl (QO.pickF (by rfl) hb26 (by rfl)) ?_
      refine RS.q rfl (QO.assign) ?_
      refine RS.nil ?_
      refine thenC_n ?_
      refine CS.condF (by rfl) rfl ?_
      refine CS.seq ?_
      refine CS.region ?_
      refine RS.q rfl (QO.fieldAddr fo61_6 (by rfl)) ?_
      refine RS.q rfl (QO.load ty59 (by rfl) (by repeat (first | exact List.Mem.head _ | refine List.Mem.tail _ ?_)) (by rfl)) ?_
      refine RS.call rfl (by rfl) ok123 (by rfl) (fun w ho => containsP A c u.pts _ (hA.own ho) hm) ?_
      rintro _ _ ⟨rfl, rfl⟩
      refine RS.q rfl (QO.assign) ?_
      refine RS.nil ?_
      refine thenC_n ?_
      refine CS.cond (by rfl) (fun hb27 => ?_) (fun hb27 => ?_)
      · refine CS.seq ?_
        refine CS.region ?_
        refine RS.q rfl (QO.assign) ?_
        refine RS.nil ?_
        refine thenC_n ?_
        refine CS.ret ?_
        refine blockC_r ?_
        refine thenC_r ?_
        refine retQ.mk (H' := []) (.inr rfl) (RVs.tmp (by rfl) RVs.nil) (List.nil_sublist _) ?_
        exact ⟨congrArg iv (winE_5 (by omega) (by unfold numW; assumption) (outW_f (by assumption) (by assumption) (by assumption) (by assumption) (by assumption)) (by unfold badP; omega) (by assumption)), rfl⟩
      refine CS.seq ?_
      refine CS.seq ?_
      refine CS.region ?_
      refine RS.q rfl (QO.move) ?_
      refine RS.q rfl (QO.move) ?_
      refine RS.on (dj := 94) rfl (congrArg Value.bool (beq_iff_eq.2 hsp1)) ?_
      refine RS.q rfl (QO.fieldAddr fo61_1 (by rfl)) ?_
      refine RS.on (dj := 94) rfl (congrArg Value.bool (beq_iff_eq.2 hsp1)) ?_
      refine RS.q rfl (QO.load ty29 (by rfl) (by repeat (first | exact List.Mem.head _ | refine List.Mem.tail _ ?_)) (by rfl)) ?_
      refine RS.on (dj := 94) rfl (congrArg Value.bool (beq_iff_eq.2 hsp1)) ?_
      refine RS.q rfl (QO.fcmp32 (by rfl) (by rfl) (by simp)) ?_
      refine RS.on (dj := 94) rfl (congrArg Value.bool (beq_iff_eq.2 hsp1)) ?_
      refine RS.q rfl (QO.move) ?_
      refine RS.split (dj := 98) (by rfl) (fun hb28 => ?_) (fun hb28 => ?_)
      · refine RS.off (dj := 98) rfl (.inl (congrArg Value.bool hb28)) (fun _ => rfl) rfl ?_
        refine RS.off (dj := 98) rfl (.inl (congrArg Value.bool hb28)) (fun _ => rfl) rfl ?_
        refine RS.off (dj := 98) rfl (.inl (congrArg Value.bool hb28)) (fun _ => rfl) rfl ?_
        refine RS.on (dj := 94) rfl (congrArg Value.bool (beq_iff_eq.2 hsp1)) ?_
        refine RS.q rfl (QO.pickT (by rfl) hb28 (by rfl)) ?_
        refine RS.on (dj := 94) rfl (congrArg Value.bool (beq_iff_eq.2 hsp1)) ?_
        refine RS.q rfl (QO.move) ?_
        refine RS.off (dj := 103) rfl (.inl (congrArg Value.bool rfl)) (fun _ => rfl) rfl ?_
        refine RS.off (dj := 103) rfl (.inl (congrArg Value.bool rfl)) (fun _ => rfl) rfl ?_
        refine RS.off (dj := 103) rfl (.inl (congrArg Value.bool rfl)) (fun _ => rfl) rfl ?_
        refine RS.on (dj := 94) rfl (congrArg Value.bool (beq_iff_eq.2 hsp1)) ?_
        refine RS.q rfl (QO.pickT (by rfl) rfl (by rfl)) ?_
        refine RS.on (dj := 94) rfl (congrArg Value.bool (beq_iff_eq.2 hsp1)) ?_
        refine RS.q rfl (QO.move) ?_
        refine RS.off (dj := 108) rfl (.inl (congrArg Value.bool rfl)) (fun _ => rfl) rfl ?_
        refine RS.off (dj := 108) rfl (.inl (congrArg Value.bool rfl)) (fun _ => rfl) rfl ?_
        refine RS.off (dj := 108) rfl (.inl (congrArg Value.bool rfl)) (fun _ => rfl) rfl ?_
        refine RS.on (dj := 94) rfl (congrArg Value.bool (beq_iff_eq.2 hsp1)) ?_
        refine RS.q rfl (QO.pickT (by rfl) rfl (by rfl)) ?_
        refine RS.on (dj := 94) rfl (congrArg Value.bool (beq_iff_eq.2 hsp1)) ?_
        refine RS.q rfl (QO.move) ?_
        refine RS.off (dj := 113) rfl (.inl (congrArg Value.bool rfl)) (fun _ => rfl) rfl ?_
        refine RS.off (dj := 113) rfl (.inl (congrArg Value.bool rfl)) (fun _ => rfl) rfl ?_
        refine RS.off (dj := 113) rfl (.inl (congrArg Value.bool rfl)) (fun _ => rfl) rfl ?_
        refine RS.on (dj := 94) rfl (congrArg Value.bool (beq_iff_eq.2 hsp1)) ?_
        refine RS.q rfl (QO.pickT (by rfl) rfl (by rfl)) ?_
        refine RS.q rfl (QO.pickT (by rfl) (beq_iff_eq.2 hsp1) (by rfl)) ?_
        refine RS.q rfl (QO.assign) ?_
        refine RS.nil ?_
        refine thenC_n ?_
        refine CS.condT (by rfl) rfl ?_
        refine CS.skip ?_
        refine thenC_n ?_
        refine CS.condT (by rfl) rfl ?_
        refine CS.seq ?_
        refine CS.region ?_
        refine RS.q rfl (QO.assign) ?_
        refine RS.nil ?_
        refine thenC_n ?_
        refine CS.ret ?_
        refine blockC_r ?_
        refine thenC_r ?_
        refine retQ.mk (H' := []) (.inr rfl) (RVs.tmp (by rfl) RVs.nil) (List.nil_sublist _) ?_
        exact ⟨congrArg iv (winE_6 (by omega) (by unfold numW; assumption) (outW_f (by assumption) (by assumption) (by assumption) (by assumption) (by assumption)) (by unfold badP; omega) (by assumption) (cnf_1 (by assumption) (by assumption))), rfl⟩
      refine RS.on (dj := 98) rfl (congrArg Value.bool hb28) ?_
      refine RS.q rfl (QO.fieldAddr fo61_2 (by rfl)) ?_
      refine RS.on (dj := 98) rfl (congrArg Value.bool hb28) ?_
      refine RS.q rfl (QO.load ty29 (by rfl) (by repeat (first | exact List.Mem.head _ | refine List.Mem.tail _ ?_)) (by rfl)) ?_
      refine RS.on (dj := 98) rfl (congrArg Value.bool hb28) ?_
      refine RS.q rfl (QO.fcmp32 (by rfl) (by rfl) (by simp)) ?_
      refine RS.on (dj := 94) rfl (congrArg Value.bool (beq_iff_eq.2 hsp1)) ?_
      refine RS.q rfl (QO.pickF (by rfl) hb28 (by rfl)) ?_
      refine RS.on (dj := 94) rfl (congrArg Value.bool (beq_iff_eq.2 hsp1)) ?_
      refine RS.q rfl (QO.move) ?_
      refine RS.split (dj := 103) (by rfl) (fun hb29 => ?_) (fun hb29 => ?_)
      · refine RS.off (dj := 103) rfl (.inl (congrArg Value.bool hb29)) (fun _ => rfl) rfl ?_
        refine RS.off (dj := 103) rfl (.inl (congrArg Value.bool hb29)) (fun _ => rfl) rfl ?_
        refine RS.off (dj := 103) rfl (.inl (congrArg Value.bool hb29)) (fun _ => rfl) rfl ?_
        refine RS.on (dj := 94) rfl (congrArg Value.bool (beq_iff_eq.2 hsp1)) ?_
        refine RS.q rfl (QO.pickT (by rfl) hb29 (by rfl)) ?_
        refine RS.on (dj := 94) rfl (congrArg Value.bool (beq_iff_eq.2 hsp1)) ?_
        refine RS.q rfl (QO.move) ?_
        refine RS.off (dj := 108) rfl (.inl (congrArg Value.bool rfl)) (fun _ => rfl) rfl ?_
        refine RS.off (dj := 108) rfl (.inl (congrArg Value.bool rfl)) (fun _ => rfl) rfl ?_
        refine RS.off (dj := 108) rfl (.inl (congrArg Value.bool rfl)) (fun _ => rfl) rfl ?_
        refine RS.on (dj := 94) rfl (congrArg Value.bool (beq_iff_eq.2 hsp1)) ?_
        refine RS.q rfl (QO.pickT (by rfl) rfl (by rfl)) ?_
        refine RS.on (dj := 94) rfl (congrArg Value.bool (beq_iff_eq.2 hsp1)) ?_
        refine RS.q rfl (QO.move) ?_
        refine RS.off (dj := 113) rfl (.inl (congrArg Value.bool rfl)) (fun _ => rfl) rfl ?_
        refine RS.off (dj := 113) rfl (.inl (congrArg Value.bool rfl)) (fun _ => rfl) rfl ?_
        refine RS.off (dj := 113) rfl (.inl (congrArg Value.bool rfl)) (fun _ => rfl) rfl ?_
        refine RS.on (dj := 94) rfl (congrArg Value.bool (beq_iff_eq.2 hsp1)) ?_
        refine RS.q rfl (QO.pickT (by rfl) rfl (by rfl)) ?_
        refine RS.q rfl (QO.pickT (by rfl) (beq_iff_eq.2 hsp1) (by rfl)) ?_
        refine RS.q rfl (QO.assign) ?_
        refine RS.nil ?_
        refine thenC_n ?_
        refine CS.condT (by rfl) rfl ?_
        refine CS.skip ?_
        refine thenC_n ?_
        refine CS.condT (by rfl) rfl ?_
        refine CS.seq ?_
        refine CS.region ?_
        refine RS.q rfl (QO.assign) ?_
        refine RS.nil ?_
        refine thenC_n ?_
        refine CS.ret ?_
        refine blockC_r ?_
        refine thenC_r ?_
        refine retQ.mk (H' := []) (.inr rfl) (RVs.tmp (by rfl) RVs.nil) (List.nil_sublist _) ?_
        exact ⟨congrArg iv (winE_6 (by omega) (by unfold numW; assumption) (outW_f (by assumption) (by assumption) (by assumption) (by assumption) (by assumption)) (by unfold badP; omega) (by assumption) (cnf_2 (by assumption) (by assumption))), rfl⟩
      refine RS.on (dj := 103) rfl (congrArg Value.bool hb29) ?_
      refine RS.q rfl (QO.fieldAddr fo61_3 (by rfl)) ?_
      refine RS.on (dj := 103) rfl (congrArg Value.bool hb29) ?_
      refine RS.q rfl (QO.load ty29 (by rfl) (by repeat (first | exact List.Mem.head _ | refine List.Mem.tail _ ?_)) (by rfl)) ?_
      refine RS.on (dj := 103) rfl (congrArg Value.bool hb29) ?_
      refine RS.q rfl (QO.fcmp32 (by rfl) (by rfl) (by simp)) ?_
      refine RS.on (dj := 94) rfl (congrArg Value.bool (beq_iff_eq.2 hsp1)) ?_
      refine RS.q rfl (QO.pickF (by rfl) hb29 (by rfl)) ?_
      refine RS.on (dj := 94) rfl (congrArg Value.bool (beq_iff_eq.2 hsp1)) ?_
      refine RS.q rfl (QO.move) ?_
      refine RS.split (dj := 108) (by rfl) (fun hb30 => ?_) (fun hb30 => ?_)
      · refine RS.off (dj := 108) rfl (.inl (congrArg Value.bool hb30)) (fun _ => rfl) rfl ?_
        refine RS.off (dj := 108) rfl (.inl (congrArg Value.bool hb30)) (fun _ => rfl) rfl ?_
        refine RS.off (dj := 108) rfl (.inl (congrArg Value.bool hb30)) (fun _ => rfl) rfl ?_
        refine RS.on (dj := 94) rfl (congrArg Value.bool (beq_iff_eq.2 hsp1)) ?_
        refine RS.q rfl (QO.pickT (by rfl) hb30 (by rfl)) ?_
        refine RS.on (dj := 94) rfl (congrArg Value.bool (beq_iff_eq.2 hsp1)) ?_
        refine RS.q rfl (QO.move) ?_
        refine RS.off (dj := 113) rfl (.inl (congrArg Value.bool rfl)) (fun _ => rfl) rfl ?_
        refine RS.off (dj := 113) rfl (.inl (congrArg Value.bool rfl)) (fun _ => rfl) rfl ?_
        refine RS.off (dj := 113) rfl (.inl (congrArg Value.bool rfl)) (fun _ => rfl) rfl ?_
        refine RS.on (dj := 94) rfl (congrArg Value.bool (beq_iff_eq.2 hsp1)) ?_
        refine RS.q rfl (QO.pickT (by rfl) rfl (by rfl)) ?_
        refine RS.q rfl (QO.pickT (by rfl) (beq_iff_eq.2 hsp1) (by rfl)) ?_
        refine RS.q rfl (QO.assign) ?_
        refine RS.nil ?_
        refine thenC_n ?_
        refine CS.condT (by rfl) rfl ?_
        refine CS.skip ?_
        refine thenC_n ?_
        refine CS.condT (by rfl) rfl ?_
        refine CS.seq ?_
        refine CS.region ?_
        refine RS.q rfl (QO.assign) ?_
        refine RS.nil ?_
        refine thenC_n ?_
        refine CS.ret ?_
        refine blockC_r ?_
        refine thenC_r ?_
        refine retQ.mk (H' := []) (.inr rfl) (RVs.tmp (by rfl) RVs.nil) (List.nil_sublist _) ?_
        exact ⟨congrArg iv (winE_6 (by omega) (by unfold numW; assumption) (outW_f (by assumption) (by assumption) (by assumption) (by assumption) (by assumption)) (by unfold badP; omega) (by assumption) (cnf_3 (by assumption) (by assumption))), rfl⟩
      refine RS.on (dj := 108) rfl (congrArg Value.bool hb30) ?_
      refine RS.q rfl (QO.fieldAddr fo61_4 (by rfl)) ?_
      refine RS.on (dj := 108) rfl (congrArg Value.bool hb30) ?_
      refine RS.q rfl (QO.load ty29 (by rfl) (by repeat (first | exact List.Mem.head _ | refine List.Mem.tail _ ?_)) (by rfl)) ?_
      refine RS.on (dj := 108) rfl (congrArg Value.bool hb30) ?_
      refine RS.q rfl (QO.fcmp32 (by rfl) (by rfl) (by simp)) ?_
      refine RS.on (dj := 94) rfl (congrArg Value.bool (beq_iff_eq.2 hsp1)) ?_
      refine RS.q rfl (QO.pickF (by rfl) hb30 (by rfl)) ?_
      refine RS.on (dj := 94) rfl (congrArg Value.bool (beq_iff_eq.2 hsp1)) ?_
      refine RS.q rfl (QO.move) ?_
      refine RS.split (dj := 113) (by rfl) (fun hb31 => ?_) (fun hb31 => ?_)
      · refine RS.off (dj := 113) rfl (.inl (congrArg Value.bool hb31)) (fun _ => rfl) rfl ?_
        refine RS.off (dj := 113) rfl (.inl (congrArg Value.bool hb31)) (fun _ => rfl) rfl ?_
        refine RS.off (dj := 113) rfl (.inl (congrArg Value.bool hb31)) (fun _ => rfl) rfl ?_
        refine RS.on (dj := 94) rfl (congrArg Value.bool (beq_iff_eq.2 hsp1)) ?_
        refine RS.q rfl (QO.pickT (by rfl) hb31 (by rfl)) ?_
        refine RS.q rfl (QO.pickT (by rfl) (beq_iff_eq.2 hsp1) (by rfl)) ?_
        refine RS.q rfl (QO.assign) ?_
        refine RS.nil ?_
        refine thenC_n ?_
        refine CS.condT (by rfl) rfl ?_
        refine CS.skip ?_
        refine thenC_n ?_
        refine CS.condT (by rfl) rfl ?_
        refine CS.seq ?_
        refine CS.region ?_
        refine RS.q rfl (QO.assign) ?_
        refine RS.nil ?_
        refine thenC_n ?_
        refine CS.ret ?_
        refine blockC_r ?_
        refine thenC_r ?_
        refine retQ.mk (H' := []) (.inr rfl) (RVs.tmp (by rfl) RVs.nil) (List.nil_sublist _) ?_
        exact ⟨congrArg iv (winE_6 (by omega) (by unfold numW; assumption) (outW_f (by assumption) (by assumption) (by assumption) (by assumption) (by assumption)) (by unfold badP; omega) (by assumption) (cnf_4 (by assumption) (by assumption))), rfl⟩
      refine RS.on (dj := 113) rfl (congrArg Value.bool hb31) ?_
      refine RS.q rfl (QO.fieldAddr fo61_5 (by rfl)) ?_
      refine RS.on (dj := 113) rfl (congrArg Value.bool hb31) ?_
      refine RS.q rfl (QO.load ty29 (by rfl) (by repeat (first | exact List.Mem.head _ | refine List.Mem.tail _ ?_)) (by rfl)) ?_
      refine RS.on (dj := 113) rfl (congrArg Value.bool hb31) ?_
      refine RS.q rfl (QO.fcmp32 (by rfl) (by rfl) (by simp)) ?_
      refine RS.on (dj := 94) rfl (congrArg Value.bool (beq_iff_eq.2 hsp1)) ?_
      refine RS.q rfl (QO.pickF (by rfl) hb31 (by rfl)) ?_
      refine RS.q rfl (QO.pickT (by rfl) (beq_iff_eq.2 hsp1) (by rfl)) ?_
      refine RS.q rfl (QO.assign) ?_
      refine RS.nil ?_
      refine thenC_n ?_
      refine CS.cond (by rfl) (fun hb32 => ?_) (fun hb32 => ?_)
      · refine CS.skip ?_
        refine thenC_n ?_
        refine CS.condT (by rfl) hb32 ?_
        refine CS.seq ?_
        refine CS.region ?_
        refine RS.q rfl (QO.assign) ?_
        refine RS.nil ?_
        refine thenC_n ?_
        refine CS.ret ?_
        refine blockC_r ?_
        refine thenC_r ?_
        refine retQ.mk (H' := []) (.inr rfl) (RVs.tmp (by rfl) RVs.nil) (List.nil_sublist _) ?_
        exact ⟨congrArg iv (winE_6 (by omega) (by unfold numW; assumption) (outW_f (by assumption) (by assumption) (by assumption) (by assumption) (by assumption)) (by unfold badP; omega) (by assumption) (cnf_5 (by assumption) (by assumption))), rfl⟩
      refine CS.region ?_
      refine RS.q rfl (QO.fieldAddr fo61_0 (by rfl)) ?_
      refine RS.q rfl (QO.load ty3 (by rfl) (by repeat (first | exact List.Mem.head _ | refine List.Mem.tail _ ?_)) (by rfl)) ?_
      refine RS.q rfl (QO.eql (by rfl) (by rfl)) ?_
      refine RS.q rfl (QO.move) ?_
      refine RS.split (dj := 122) (by rfl) (fun hb33 => ?_) (fun hb33 => ?_)
      · have hb33p := eq_of_beq hb33
        refine RS.on (dj := 122) rfl (congrArg Value.bool hb33) ?_
        refine RS.q rfl (QO.fieldAddr fo61_3 (by rfl)) ?_
        refine RS.on (dj := 122) rfl (congrArg Value.bool hb33) ?_
        refine RS.q rfl (QO.load ty29 (by rfl) (by repeat (first | exact List.Mem.head _ | refine List.Mem.tail _ ?_)) (by rfl)) ?_
        refine RS.on (dj := 122) rfl (congrArg Value.bool hb33) ?_
        refine RS.q rfl (QO.fcmp32 (by rfl) (by rfl) (by simp)) ?_
        refine RS.on (dj := 122) rfl (congrArg Value.bool hb33) ?_
        refine RS.q rfl (QO.move) ?_
        refine RS.split (dj := 126) (by rfl) (fun hb34 => ?_) (fun hb34 => ?_)
        · refine RS.off (dj := 126) rfl (.inl (congrArg Value.bool hb34)) (fun _ => rfl) rfl ?_
          refine RS.off (dj := 126) rfl (.inl (congrArg Value.bool hb34)) (fun _ => rfl) rfl ?_
          refine RS.off (dj := 126) rfl (.inl (congrArg Value.bool hb34)) (fun _ => rfl) rfl ?_
          refine RS.on (dj := 122) rfl (congrArg Value.bool hb33) ?_
          refine RS.q rfl (QO.pickT (by rfl) hb34 (by rfl)) ?_
          refine RS.q rfl (QO.pickT (by rfl) hb33 (by rfl)) ?_
          refine RS.q rfl (QO.assign) ?_
          refine RS.nil ?_
          refine thenC_n ?_
          refine CS.condT (by rfl) rfl ?_
          refine CS.seq ?_
          refine CS.region ?_
          refine RS.q rfl (QO.assign) ?_
          refine RS.nil ?_
          refine thenC_n ?_
          refine CS.ret ?_
          refine blockC_r ?_
          refine thenC_r ?_
          refine retQ.mk (H' := []) (.inr rfl) (RVs.tmp (by rfl) RVs.nil) (List.nil_sublist _) ?_
          exact ⟨congrArg iv (winE_6 (by omega) (by unfold numW; assumption) (outW_f (by assumption) (by assumption) (by assumption) (by assumption) (by assumption)) (by unfold badP; omega) (by assumption) (cnf_6 (by assumption) (by assumption))), rfl⟩
        refine RS.on (dj := 126) rfl (congrArg Value.bool hb34) ?_
        refine RS.q rfl (QO.fieldAddr fo61_4 (by rfl)) ?_
        refine RS.on (dj := 126) rfl (congrArg Value.bool hb34) ?_
        refine RS.q rfl (QO.load ty29 (by rfl) (by repeat (first | exact List.Mem.head _ | refine List.Mem.tail _ ?_)) (by rfl)) ?_
        refine RS.on (dj := 126) rfl (congrArg Value.bool hb34) ?_
        refine RS.q rfl (QO.fcmp32 (by rfl) (by rfl) (by simp)) ?_
        refine RS.on (dj := 122) rfl (congrArg Value.bool hb33) ?_
        refine RS.q rfl (QO.pickF (by rfl) hb34 (by rfl)) ?_
        refine RS.q rfl (QO.pickT (by rfl) hb33 (by rfl)) ?_
        refine RS.q rfl (QO.assign) ?_
        refine RS.nil ?_
        refine thenC_n ?_
        refine CS.cond (by rfl) (fun hb35 => ?_) (fun hb35 => ?_)
        · refine CS.seq ?_
          refine CS.region ?_
          refine RS.q rfl (QO.assign) ?_
          refine RS.nil ?_
          refine thenC_n ?_
          refine CS.ret ?_
          refine blockC_r ?_
          refine thenC_r ?_
          refine retQ.mk (H' := []) (.inr rfl) (RVs.tmp (by rfl) RVs.nil) (List.nil_sublist _) ?_
          exact ⟨congrArg iv (winE_6 (by omega) (by unfold numW; assumption) (outW_f (by assumption) (by assumption) (by assumption) (by assumption) (by assumption)) (by unfold badP; omega) (by assumption) (cnf_7 (by assumption) (by assumption))), rfl⟩
        refine CS.skip ?_
        refine blockC_n ?_
        refine thenC_n ?_
        refine CS.seq ?_
        refine CS.region ?_
        refine RS.q rfl (QO.assign) ?_
        refine RS.nil ?_
        refine thenC_n ?_
        refine CS.ret ?_
        refine retQ.mk (H' := []) (.inr rfl) (RVs.tmp (by rfl) RVs.nil) (List.nil_sublist _) ?_
        exact ⟨congrArg iv (winE_0 (by omega) (by unfold numW; assumption) (outW_f (by assumption) (by assumption) (by assumption) (by assumption) (by assumption)) (by unfold badP; omega) (by assumption) (cnf_a (by assumption) (by assumption) (by assumption) (by assumption) (by assumption) (by assumption))), rfl⟩
      have hb33p := ne_of_beq_false hb33
      refine RS.off (dj := 122) rfl (.inl (congrArg Value.bool hb33)) (fun _ => rfl) rfl ?_
      refine RS.off (dj := 122) rfl (.inl (congrArg Value.bool hb33)) (fun _ => rfl) rfl ?_
      refine RS.off (dj := 122) rfl (.inl (congrArg Value.bool hb33)) (fun _ => rfl) rfl ?_
      refine RS.off (dj := 122) rfl (.inl (congrArg Value.bool hb33)) (fun _ => rfl) rfl ?_
      refine RS.off (dj := 126) (c := true) rfl (.inr rfl) (fun h => by cases h) rfl ?_
      refine RS.off (dj := 126) (c := true) rfl (.inr rfl) (fun h => by cases h) rfl ?_
      refine RS.off (dj := 126) (c := true) rfl (.inr rfl) (fun h => by cases h) rfl ?_
      refine RS.off (dj := 122) rfl (.inl (congrArg Value.bool hb33)) (fun _ => rfl) rfl ?_
      refine RS.q rfl (QO.pickF (by rfl) hb33 (by rfl)) ?_
      refine RS.q rfl (QO.assign) ?_
      refine RS.nil ?_
      refine thenC_n ?_
      refine CS.condF (by rfl) rfl ?_
      refine CS.skip ?_
      refine blockC_n ?_
      refine thenC_n ?_
      refine CS.seq ?_
      refine CS.region ?_
      refine RS.q rfl (QO.assign) ?_
      refine RS.nil ?_
      refine thenC_n ?_
      refine CS.ret ?_
      refine retQ.mk (H' := []) (.inr rfl) (RVs.tmp (by rfl) RVs.nil) (List.nil_sublist _) ?_
      exact ⟨congrArg iv (winE_0 (by omega) (by unfold numW; assumption) (outW_f (by assumption) (by assumption) (by assumption) (by assumption) (by assumption)) (by unfold badP; omega) (by assumption) (cnf_a (by assumption) (by assumption) (by assumption) (by assumption) (by assumption) (by assumption))), rfl⟩
    have hb0p := of_bne_false hb0
    refine RS.off (dj := 12) rfl (.inl (congrArg Value.bool hb0)) (fun _ => rfl) rfl ?_
    refine RS.off (dj := 12) rfl (.inl (congrArg Value.bool hb0)) (fun _ => rfl) rfl ?_
    refine RS.off (dj := 12) rfl (.inl (congrArg Value.bool hb0)) (fun _ => rfl) rfl ?_
    refine RS.q rfl (QO.pickF (by rfl) hb0 (by rfl)) ?_
    refine RS.q rfl (QO.move) ?_
    refine RS.off (dj := 17) rfl (.inl (congrArg Value.bool rfl)) (fun _ => rfl) rfl ?_
    refine RS.off (dj := 17) rfl (.inl (congrArg Value.bool rfl)) (fun _ => rfl) rfl ?_
    refine RS.q rfl (QO.pickF (by rfl) rfl (by rfl)) ?_
    refine RS.q rfl (QO.assign) ?_
    refine RS.nil ?_
    refine thenC_n ?_
    refine CS.condF (by rfl) rfl ?_
    refine CS.seq ?_
    refine CS.region ?_
    refine RS.q rfl (QO.fieldAddr fo61_1 (by rfl)) ?_
    refine RS.q rfl (QO.load ty29 (by rfl) (by repeat (first | exact List.Mem.head _ | refine List.Mem.tail _ ?_)) (by rfl)) ?_
    refine RS.q rfl (QO.fieldAddr fo61_2 (by rfl)) ?_
    refine RS.q rfl (QO.load ty29 (by rfl) (by repeat (first | exact List.Mem.head _ | refine List.Mem.tail _ ?_)) (by rfl)) ?_
    refine RS.q rfl (QO.fieldAddr fo61_3 (by rfl)) ?_
    refine RS.q rfl (QO.load ty29 (by rfl) (by repeat (first | exact List.Mem.head _ | refine List.Mem.tail _ ?_)) (by rfl)) ?_
    refine RS.q rfl (QO.fieldAddr fo61_4 (by rfl)) ?_
    refine RS.q rfl (QO.load ty29 (by rfl) (by repeat (first | exact List.Mem.head _ | refine List.Mem.tail _ ?_)) (by rfl)) ?_
    refine RS.q rfl (QO.fieldAddr fo61_5 (by rfl)) ?_
    refine RS.q rfl (QO.load ty29 (by rfl) (by repeat (first | exact List.Mem.head _ | refine List.Mem.tail _ ?_)) (by rfl)) ?_
    refine RS.buildSlice rfl Try.underlying24 ty29 (by decide) (by decide) (by rfl) (by rfl) ?_
    intro g32
    refine RS.call rfl (by rfl) ok128 (by rfl) (fun w ho => allNumbers (some ⟨g32, 0, none⟩) 5 5 [u.x, u.y, u.w, u.h, u.soft] _ rfl (FS.blk' (xs := [u.x, u.y, u.w, u.h, u.soft]) ho (by repeat (first | exact List.Mem.head _ | refine List.Mem.tail _ ?_))) (by decide)) ?_
    rintro _ _ ⟨rfl, rfl⟩
    refine RS.q rfl (QO.not (by rfl)) ?_
    refine RS.q rfl (QO.assign) ?_
    refine RS.nil ?_
    refine thenC_n ?_
    refine CS.cond (by rfl) (fun hb36 => ?_) (fun hb36 => ?_)
    · have hb36p := Eq.mp (Bool.not_eq_true' _) hb36
      refine CS.seq ?_
      refine CS.region ?_
      refine RS.q rfl (QO.assign) ?_
      refine RS.nil ?_
      refine thenC_n ?_
      refine CS.ret ?_
      refine blockC_r ?_
      refine thenC_r ?_
      refine retQ.mk (H' := []) (.inr rfl) (RVs.tmp (by rfl) RVs.nil) (List.nil_sublist _) ?_
      exact ⟨congrArg iv (winE_2 (by omega) (by unfold numW; assumption)), rfl⟩
    have hb36p := Eq.mp (Bool.not_eq_false' _) hb36
    refine CS.seq ?_
    refine CS.region ?_
    refine RS.q rfl (QO.move) ?_
    refine RS.q rfl (QO.fieldAddr fo61_1 (by rfl)) ?_
    refine RS.q rfl (QO.load ty29 (by rfl) (by repeat (first | exact List.Mem.head _ | refine List.Mem.tail _ ?_)) (by rfl)) ?_
    refine RS.call rfl (by rfl) ok127 (by rfl) (fun w ho => outW1 u.x 3380609024 1233125376 _) ?_
    rintro _ _ ⟨rfl, rfl⟩
    refine RS.q rfl (QO.move) ?_
    refine RS.split (dj := 40) (by rfl) (fun hb37 => ?_) (fun hb37 => ?_)
    · refine RS.off (dj := 40) rfl (.inl (congrArg Value.bool hb37)) (fun _ => rfl) rfl ?_
      refine RS.off (dj := 40) rfl (.inl (congrArg Value.bool hb37)) (fun _ => rfl) rfl ?_
      refine RS.off (dj := 40) rfl (.inl (congrArg Value.bool hb37)) (fun _ => rfl) rfl ?_
      refine RS.off (dj := 40) rfl (.inl (congrArg Value.bool hb37)) (fun _ => rfl) rfl ?_
      refine RS.q rfl (QO.pickT (by rfl) hb37 (by rfl)) ?_
      refine RS.q rfl (QO.move) ?_
      refine RS.off (dj := 46) rfl (.inl (congrArg Value.bool rfl)) (fun _ => rfl) rfl ?_
      refine RS.off (dj := 46) rfl (.inl (congrArg Value.bool rfl)) (fun _ => rfl) rfl ?_
      refine RS.off (dj := 46) rfl (.inl (congrArg Value.bool rfl)) (fun _ => rfl) rfl ?_
      refine RS.off (dj := 46) rfl (.inl (congrArg Value.bool rfl)) (fun _ => rfl) rfl ?_
      refine RS.q rfl (QO.pickT (by rfl) rfl (by rfl)) ?_
      refine RS.q rfl (QO.move) ?_
      refine RS.off (dj := 52) rfl (.inl (congrArg Value.bool rfl)) (fun _ => rfl) rfl ?_
      refine RS.off (dj := 52) rfl (.inl (congrArg Value.bool rfl)) (fun _ => rfl) rfl ?_
      refine RS.off (dj := 52) rfl (.inl (congrArg Value.bool rfl)) (fun _ => rfl) rfl ?_
      refine RS.off (dj := 52) rfl (.inl (congrArg Value.bool rfl)) (fun _ => rfl) rfl ?_
      refine RS.q rfl (QO.pickT (by rfl) rfl (by rfl)) ?_
      refine RS.q rfl (QO.move) ?_
      refine RS.off (dj := 58) rfl (.inl (congrArg Value.bool rfl)) (fun _ => rfl) rfl ?_
      refine RS.off (dj := 58) rfl (.inl (congrArg Value.bool rfl)) (fun _ => rfl) rfl ?_
      refine RS.off (dj := 58) rfl (.inl (congrArg Value.bool rfl)) (fun _ => rfl) rfl ?_
      refine RS.off (dj := 58) rfl (.inl (congrArg Value.bool rfl)) (fun _ => rfl) rfl ?_
      refine RS.q rfl (QO.pickT (by rfl) rfl (by rfl)) ?_
      refine RS.q rfl (QO.assign) ?_
      refine RS.nil ?_
      refine thenC_n ?_
      refine CS.condT (by rfl) rfl ?_
      refine CS.seq ?_
      refine CS.region ?_
      refine RS.q rfl (QO.assign) ?_
      refine RS.nil ?_
      refine thenC_n ?_
      refine CS.ret ?_
      refine blockC_r ?_
      refine thenC_r ?_
      refine retQ.mk (H' := []) (.inr rfl) (RVs.tmp (by rfl) RVs.nil) (List.nil_sublist _) ?_
      exact ⟨congrArg iv (winE_3 (by omega) (by unfold numW; assumption) (outW_1 (by assumption))), rfl⟩
    refine RS.on (dj := 40) rfl (congrArg Value.bool hb37) ?_
    refine RS.q rfl (QO.move) ?_
    refine RS.on (dj := 40) rfl (congrArg Value.bool hb37) ?_
    refine RS.q rfl (QO.fieldAddr fo61_2 (by rfl)) ?_
    refine RS.on (dj := 40) rfl (congrArg Value.bool hb37) ?_
    refine RS.q rfl (QO.load ty29 (by rfl) (by repeat (first | exact List.Mem.head _ | refine List.Mem.tail _ ?_)) (by rfl)) ?_
    refine RS.on (dj := 40) rfl (congrArg Value.bool hb37) ?_
    refine RS.call rfl (by rfl) ok127 (by rfl) (fun w ho => outW1 u.y 3380609024 1233125376 _) ?_
    rintro _ _ ⟨rfl, rfl⟩
    refine RS.q rfl (QO.pickF (by rfl) hb37 (by rfl)) ?_
    refine RS.q rfl (QO.move) ?_
    refine RS.split (dj := 46) (by rfl) (fun hb38 => ?_) (fun hb38 => ?_)
    · refine RS.off (dj := 46) rfl (.inl (congrArg Value.bool hb38)) (fun _ => rfl) rfl ?_
      refine RS.off (dj := 46) rfl (.inl (congrArg Value.bool hb38)) (fun _ => rfl) rfl ?_
      refine RS.off (dj := 46) rfl (.inl (congrArg Value.bool hb38)) (fun _ => rfl) rfl ?_
      refine RS.off (dj := 46) rfl (.inl (congrArg Value.bool hb38)) (fun _ => rfl) rfl ?_
      refine RS.q rfl (QO.pickT (by rfl) hb38 (by rfl)) ?_
      refine RS.q rfl (QO.move) ?_
      refine RS.off (dj := 52) rfl (.inl (congrArg Value.bool rfl)) (fun _ => rfl) rfl ?_
      refine RS.off (dj := 52) rfl (.inl (congrArg Value.bool rfl)) (fun _ => rfl) rfl ?_
      refine RS.off (dj := 52) rfl (.inl (congrArg Value.bool rfl)) (fun _ => rfl) rfl ?_
      refine RS.off (dj := 52) rfl (.inl (congrArg Value.bool rfl)) (fun _ => rfl) rfl ?_
      refine RS.q rfl (QO.pickT (by rfl) rfl (by rfl)) ?_
      refine RS.q rfl (QO.move) ?_
      refine RS.off (dj := 58) rfl (.inl (congrArg Value.bool rfl)) (fun _ => rfl) rfl ?_
      refine RS.off (dj := 58) rfl (.inl (congrArg Value.bool rfl)) (fun _ => rfl) rfl ?_
      refine RS.off (dj := 58) rfl (.inl (congrArg Value.bool rfl)) (fun _ => rfl) rfl ?_
      refine RS.off (dj := 58) rfl (.inl (congrArg Value.bool rfl)) (fun _ => rfl) rfl ?_
      refine RS.q rfl (QO.pickT (by rfl) rfl (by rfl)) ?_
      refine RS.q rfl (QO.assign) ?_
      refine RS.nil ?_
      refine thenC_n ?_
      refine CS.condT (by rfl) rfl ?_
      refine CS.seq ?_
      refine CS.region ?_
      refine RS.q rfl (QO.assign) ?_
      refine RS.nil ?_
      refine thenC_n ?_
      refine CS.ret ?_
      refine blockC_r ?_
      refine thenC_r ?_
      refine retQ.mk (H' := []) (.inr rfl) (RVs.tmp (by rfl) RVs.nil) (List.nil_sublist _) ?_
      exact ⟨congrArg iv (winE_3 (by omega) (by unfold numW; assumption) (outW_2 (by assumption))), rfl⟩
    refine RS.on (dj := 46) rfl (congrArg Value.bool hb38) ?_
    refine RS.q rfl (QO.move) ?_
    refine RS.on (dj := 46) rfl (congrArg Value.bool hb38) ?_
    refine RS.q rfl (QO.fieldAddr fo61_3 (by rfl)) ?_
    refine RS.on (dj := 46) rfl (congrArg Value.bool hb38) ?_
    refine RS.q rfl (QO.load ty29 (by rfl) (by repeat (first | exact List.Mem.head _ | refine List.Mem.tail _ ?_)) (by rfl)) ?_
    refine RS.on (dj := 46) rfl (congrArg Value.bool hb38) ?_
    refine RS.call rfl (by rfl) ok127 (by rfl) (fun w ho => outW1 u.w 0 1233125376 _) ?_
    rintro _ _ ⟨rfl, rfl⟩
    refine RS.q rfl (QO.pickF (by rfl) hb38 (by rfl)) ?_
    refine RS.q rfl (QO.move) ?_
    refine RS.split (dj := 52) (by rfl) (fun hb39 => ?_) (fun hb39 => ?_)
    · refine RS.off (dj := 52) rfl (.inl (congrArg Value.bool hb39)) (fun _ => rfl) rfl ?_
      refine RS.off (dj := 52) rfl (.inl (congrArg Value.bool hb39)) (fun _ => rfl) rfl ?_
      refine RS.off (dj := 52) rfl (.inl (congrArg Value.bool hb39)) (fun _ => rfl) rfl ?_
      refine RS.off (dj := 52) rfl (.inl (congrArg Value.bool hb39)) (fun _ => rfl) rfl ?_
      refine RS.q rfl (QO.pickT (by rfl) hb39 (by rfl)) ?_
      refine RS.q rfl (QO.move) ?_
      refine RS.off (dj := 58) rfl (.inl (congrArg Value.bool rfl)) (fun _ => rfl) rfl ?_
      refine RS.off (dj := 58) rfl (.inl (congrArg Value.bool rfl)) (fun _ => rfl) rfl ?_
      refine RS.off (dj := 58) rfl (.inl (congrArg Value.bool rfl)) (fun _ => rfl) rfl ?_
      refine RS.off (dj := 58) rfl (.inl (congrArg Value.bool rfl)) (fun _ => rfl) rfl ?_
      refine RS.q rfl (QO.pickT (by rfl) rfl (by rfl)) ?_
      refine RS.q rfl (QO.assign) ?_
      refine RS.nil ?_
      refine thenC_n ?_
      refine CS.condT (by rfl) rfl ?_
      refine CS.seq ?_
      refine CS.region ?_
      refine RS.q rfl (QO.assign) ?_
      refine RS.nil ?_
      refine thenC_n ?_
      refine CS.ret ?_
      refine blockC_r ?_
      refine thenC_r ?_
      refine retQ.mk (H' := []) (.inr rfl) (RVs.tmp (by rfl) RVs.nil) (List.nil_sublist _) ?_
      exact ⟨congrArg iv (winE_3 (by omega) (by unfold numW; assumption) (outW_3 (by assumption))), rfl⟩
    refine RS.on (dj := 52) rfl (congrArg Value.bool hb39) ?_
    refine RS.q rfl (QO.move) ?_
    refine RS.on (dj := 52) rfl (congrArg Value.bool hb39) ?_
    refine RS.q rfl (QO.fieldAddr fo61_4 (by rfl)) ?_
    refine RS.on (dj := 52) rfl (congrArg Value.bool hb39) ?_
    refine RS.q rfl (QO.load ty29 (by rfl) (by repeat (first | exact List.Mem.head _ | refine List.Mem.tail _ ?_)) (by rfl)) ?_
    refine RS.on (dj := 52) rfl (congrArg Value.bool hb39) ?_
    refine RS.call rfl (by rfl) ok127 (by rfl) (fun w ho => outW1 u.h 0 1233125376 _) ?_
    rintro _ _ ⟨rfl, rfl⟩
    refine RS.q rfl (QO.pickF (by rfl) hb39 (by rfl)) ?_
    refine RS.q rfl (QO.move) ?_
    refine RS.split (dj := 58) (by rfl) (fun hb40 => ?_) (fun hb40 => ?_)
    · refine RS.off (dj := 58) rfl (.inl (congrArg Value.bool hb40)) (fun _ => rfl) rfl ?_
      refine RS.off (dj := 58) rfl (.inl (congrArg Value.bool hb40)) (fun _ => rfl) rfl ?_
      refine RS.off (dj := 58) rfl (.inl (congrArg Value.bool hb40)) (fun _ => rfl) rfl ?_
      refine RS.off (dj := 58) rfl (.inl (congrArg Value.bool hb40)) (fun _ => rfl) rfl ?_
      refine RS.q rfl (QO.pickT (by rfl) hb40 (by rfl)) ?_
      refine RS.q rfl (QO.assign) ?_
      refine RS.nil ?_
      refine thenC_n ?_
      refine CS.condT (by rfl) rfl ?_
      refine CS.seq ?_
      refine CS.region ?_
      refine RS.q rfl (QO.assign) ?_
      refine RS.nil ?_
      refine thenC_n ?_
      refine CS.ret ?_
      refine blockC_r ?_
      refine thenC_r ?_
      refine retQ.mk (H' := []) (.inr rfl) (RVs.tmp (by rfl) RVs.nil) (List.nil_sublist _) ?_
      exact ⟨congrArg iv (winE_3 (by omega) (by unfold numW; assumption) (outW_4 (by assumption))), rfl⟩
    refine RS.on (dj := 58) rfl (congrArg Value.bool hb40) ?_
    refine RS.q rfl (QO.move) ?_
    refine RS.on (dj := 58) rfl (congrArg Value.bool hb40) ?_
    refine RS.q rfl (QO.fieldAddr fo61_5 (by rfl)) ?_
    refine RS.on (dj := 58) rfl (congrArg Value.bool hb40) ?_
    refine RS.q rfl (QO.load ty29 (by rfl) (by repeat (first | exact List.Mem.head _ | refine List.Mem.tail _ ?_)) (by rfl)) ?_
    refine RS.on (dj := 58) rfl (congrArg Value.bool hb40) ?_
    refine RS.call rfl (by rfl) ok127 (by rfl) (fun w ho => outW1 u.soft 0 1166016512 _) ?_
    rintro _ _ ⟨rfl, rfl⟩
    refine RS.q rfl (QO.pickF (by rfl) hb40 (by rfl)) ?_
    refine RS.q rfl (QO.assign) ?_
    refine RS.nil ?_
    refine thenC_n ?_
    refine CS.cond (by rfl) (fun hb41 => ?_) (fun hb41 => ?_)
    · refine CS.seq ?_
      refine CS.region ?_
      refine RS.q rfl (QO.assign) ?_
      refine RS.nil ?_
      refine thenC_n ?_
      refine CS.ret ?_
      refine blockC_r ?_
      refine thenC_r ?_
      refine retQ.mk (H' := []) (.inr rfl) (RVs.tmp (by rfl) RVs.nil) (List.nil_sublist _) ?_
      exact ⟨congrArg iv (winE_3 (by omega) (by unfold numW; assumption) (outW_5 (by assumption))), rfl⟩
    refine CS.seq ?_
    refine CS.region ?_
    refine RS.q rfl (QO.move) ?_
    refine RS.q rfl (QO.move) ?_
    refine RS.on (dj := 66) rfl (congrArg Value.bool (beq_iff_eq.2 hsp1)) ?_
    refine RS.q rfl (QO.fieldAddr fo61_6 (by rfl)) ?_
    refine RS.on (dj := 66) rfl (congrArg Value.bool (beq_iff_eq.2 hsp1)) ?_
    refine RS.q rfl (QO.load ty59 (by rfl) (by repeat (first | exact List.Mem.head _ | refine List.Mem.tail _ ?_)) (by rfl)) ?_
    refine RS.on (dj := 66) rfl (congrArg Value.bool (beq_iff_eq.2 hsp1)) ?_
    refine RS.q rfl (QO.lenS Try.underlying59 (by rfl)) ?_
    refine RS.on (dj := 66) rfl (congrArg Value.bool (beq_iff_eq.2 hsp1)) ?_
    refine RS.q rfl (QO.lss (by rfl) (by rfl)) ?_
    refine RS.on (dj := 66) rfl (congrArg Value.bool (beq_iff_eq.2 hsp1)) ?_
    refine RS.q rfl (QO.move) ?_
    refine RS.split (dj := 71) (by rfl) (fun hb42 => ?_) (fun hb42 => ?_)
    · have hb42p := of_decide_eq_true hb42
      refine RS.off (dj := 71) rfl (.inl (congrArg Value.bool hb42)) (fun _ => rfl) rfl ?_
      refine RS.off (dj := 71) rfl (.inl (congrArg Value.bool hb42)) (fun _ => rfl) rfl ?_
      refine RS.off (dj := 71) rfl (.inl (congrArg Value.bool hb42)) (fun _ => rfl) rfl ?_
      refine RS.off (dj := 71) rfl (.inl (congrArg Value.bool hb42)) (fun _ => rfl) rfl ?_
      refine RS.on (dj := 66) rfl (congrArg Value.bool (beq_iff_eq.2 hsp1)) ?_
      refine RS.q rfl (QO.pickT (by rfl) hb42 (by rfl)) ?_
      refine RS.q rfl (QO.pickT (by rfl) (beq_iff_eq.2 hsp1) (by rfl)) ?_
      refine RS.q rfl (QO.move) ?_
      refine RS.off (dj := 78) rfl (.inl (congrArg Value.bool rfl)) (fun _ => rfl) rfl ?_
      refine RS.off (dj := 78) rfl (.inl (congrArg Value.bool rfl)) (fun _ => rfl) rfl ?_
      refine RS.off (dj := 78) rfl (.inl (congrArg Value.bool rfl)) (fun _ => rfl) rfl ?_
      refine RS.off (dj := 81) (c := false) rfl (.inr rfl) (fun h => by cases h) rfl ?_
      refine RS.off (dj := 81) (c := false) rfl (.inr rfl) (fun h => by cases h) rfl ?_
      refine RS.off (dj := 81) (c := false) rfl (.inr rfl) (fun h => by cases h) rfl ?_
      refine RS.off (dj := 81) (c := false) rfl (.inr rfl) (fun h => by cases h) rfl ?_
      refine RS.off (dj := 78) rfl (.inl (congrArg Value.bool rfl)) (fun _ => rfl) rfl ?_
      refine RS.q rfl (QO.pickT (by rfl) rfl (by rfl)) ?_
      refine RS.q rfl (QO.assign) ?_
      refine RS.nil ?_
      refine thenC_n ?_
      refine CS.condT (by rfl) rfl ?_
      refine CS.seq ?_
      refine CS.region ?_
      refine RS.q rfl (QO.assign) ?_
      refine RS.nil ?_
      refine thenC_n ?_
      refine CS.ret ?_
      refine blockC_r ?_
      refine thenC_r ?_
      refine retQ.mk (H' := []) (.inr rfl) (RVs.tmp (by rfl) RVs.nil) (List.nil_sublist _) ?_
      exact ⟨congrArg iv (winE_4 (by omega) (by unfold numW; assumption) (outW_f (by assumption) (by assumption) (by assumption) (by assumption) (by assumption)) (by unfold badP; omega)), rfl⟩
    have hb42p := of_decide_eq_false hb42
    refine RS.on (dj := 71) rfl (congrArg Value.bool hb42) ?_
    refine RS.q rfl (QO.fieldAddr fo61_6 (by rfl)) ?_
    refine RS.on (dj := 71) rfl (congrArg Value.bool hb42) ?_
    refine RS.q rfl (QO.load ty59 (by rfl) (by repeat (first | exact List.Mem.head _ | refine List.Mem.tail _ ?_)) (by rfl)) ?_
    refine RS.on (dj := 71) rfl (congrArg Value.bool hb42) ?_
    refine RS.q rfl (QO.lenS Try.underlying59 (by rfl)) ?_
    refine RS.on (dj := 71) rfl (congrArg Value.bool hb42) ?_
    refine RS.q rfl (QO.gtr (by rfl) (by rfl)) ?_
    refine RS.on (dj := 66) rfl (congrArg Value.bool (beq_iff_eq.2 hsp1)) ?_
    refine RS.q rfl (QO.pickF (by rfl) hb42 (by rfl)) ?_
    refine RS.q rfl (QO.pickT (by rfl) (beq_iff_eq.2 hsp1) (by rfl)) ?_
    refine RS.q rfl (QO.move) ?_
    refine RS.split (dj := 78) (by rfl) (fun hb43 => ?_) (fun hb43 => ?_)
    · have hb43p := of_decide_eq_true hb43
      refine RS.off (dj := 78) rfl (.inl (congrArg Value.bool hb43)) (fun _ => rfl) rfl ?_
      refine RS.off (dj := 78) rfl (.inl (congrArg Value.bool hb43)) (fun _ => rfl) rfl ?_
      refine RS.off (dj := 78) rfl (.inl (congrArg Value.bool hb43)) (fun _ => rfl) rfl ?_
      refine RS.off (dj := 81) (c := false) rfl (.inr rfl) (fun h => by cases h) rfl ?_
      refine RS.off (dj := 81) (c := false) rfl (.inr rfl) (fun h => by cases h) rfl ?_
      refine RS.off (dj := 81) (c := false) rfl (.inr rfl) (fun h => by cases h) rfl ?_
      refine RS.off (dj := 81) (c := false) rfl (.inr rfl) (fun h => by cases h) rfl ?_
      refine RS.off (dj := 78) rfl (.inl (congrArg Value.bool hb43)) (fun _ => rfl) rfl ?_
      refine RS.q rfl (QO.pickT (by rfl) hb43 (by rfl)) ?_
      refine RS.q rfl (QO.assign) ?_
      refine RS.nil ?_
      refine thenC_n ?_
      refine CS.condT (by rfl) rfl ?_
      refine CS.seq ?_
      refine CS.region ?_
      refine RS.q rfl (QO.assign) ?_
      refine RS.nil ?_
      refine thenC_n ?_
      refine CS.ret ?_
      refine blockC_r ?_
      refine thenC_r ?_
      refine retQ.mk (H' := []) (.inr rfl) (RVs.tmp (by rfl) RVs.nil) (List.nil_sublist _) ?_
      exact ⟨congrArg iv (winE_4 (by omega) (by unfold numW; assumption) (outW_f (by assumption) (by assumption) (by assumption) (by assumption) (by assumption)) (by unfold badP; omega)), rfl⟩
    have hb43p := of_decide_eq_false hb43
    refine RS.on (dj := 78) rfl (congrArg Value.bool hb43) ?_
    refine RS.q rfl (QO.move) ?_
    refine RS.on (dj := 78) rfl (congrArg Value.bool hb43) ?_
    refine RS.q rfl (QO.not (by rfl)) ?_
    refine RS.on (dj := 78) rfl (congrArg Value.bool hb43) ?_
    refine RS.q rfl (QO.move) ?_
    refine RS.off (dj := 81) rfl (.inl (congrArg Value.bool (by rw [(beq_iff_eq.2 hsp1)] <;> rfl))) (fun _ => rfl) rfl ?_
    refine RS.off (dj := 81) rfl (.inl (congrArg Value.bool (by rw [(beq_iff_eq.2 hsp1)] <;> rfl))) (fun _ => rfl) rfl ?_
    refine RS.off (dj := 81) rfl (.inl (congrArg Value.bool (by rw [(beq_iff_eq.2 hsp1)] <;> rfl))) (fun _ => rfl) rfl ?_
    refine RS.off (dj := 81) rfl (.inl (congrArg Value.bool (by rw [(beq_iff_eq.2 hsp1)] <;> rfl))) (fun _ => rfl) rfl ?_
    refine RS.on (dj := 78) rfl (congrArg Value.bool hb43) ?_
    refine RS.q rfl (QO.pickF (by rfl) (by rw [(beq_iff_eq.2 hsp1)] <;> rfl) (by rfl)) ?_
    refine RS.q rfl (QO.pickF (by rfl) hb43 (by rfl)) ?_
    refine RS.q rfl (QO.assign) ?_
    refine RS.nil ?_
    refine thenC_n ?_
    refine CS.condF (by rfl) rfl ?_
    refine CS.seq ?_
    refine CS.region ?_
    refine RS.q rfl (QO.fieldAddr fo61_6 (by rfl)) ?_
    refine RS.q rfl (QO.load ty59 (by rfl) (by repeat (first | exact List.Mem.head _ | refine List.Mem.tail _ ?_)) (by rfl)) ?_
    refine RS.call rfl (by rfl) ok123 (by rfl) (fun w ho => containsP A c u.pts _ (hA.own ho) hm) ?_
    rintro _ _ ⟨rfl, rfl⟩
    refine RS.q rfl (QO.assign) ?_
    refine RS.nil ?_
    refine thenC_n ?_
    refine CS.cond (by rfl) (fun hb44 => ?_) (fun hb44 => ?_)
    · refine CS.seq ?_
      refine CS.region ?_
      refine RS.q rfl (QO.assign) ?_
      refine RS.nil ?_
      refine thenC_n ?_
      refine CS.ret ?_
      refine blockC_r ?_
      refine thenC_r ?_
      refine retQ.mk (H' := []) (.inr rfl) (RVs.tmp (by rfl) RVs.nil) (List.nil_sublist _) ?_
      exact ⟨congrArg iv (winE_5 (by omega) (by unfold numW; assumption) (outW_f (by assumption) (by assumption) (by assumption) (by assumption) (by assumption)) (by unfold badP; omega) (by assumption)), rfl⟩
    refine CS.seq ?_
    refine CS.seq ?_
    refine CS.region ?_
    refine RS.q rfl (QO.move) ?_
    refine RS.q rfl (QO.move) ?_
    refine RS.on (dj := 94) rfl (congrArg Value.bool (beq_iff_eq.2 hsp1)) ?_
    refine RS.q rfl (QO.fieldAddr fo61_1 (by rfl)) ?_
    refine RS.on (dj := 94) rfl (congrArg Value.bool (beq_iff_eq.2 hsp1)) ?_
    refine RS.q rfl (QO.load ty29 (by rfl) (by repeat (first | exact List.Mem.head _ | refine List.Mem.tail _ ?_)) (by rfl)) ?_
    refine RS.on (dj := 94) rfl (congrArg Value.bool (beq_iff_eq.2 hsp1)) ?_
    refine RS.q rfl (QO.fcmp32 (by rfl) (by rfl) (by simp)) ?_
    refine RS.on (dj := 94) rfl (congrArg Value.bool (beq_iff_eq.2 hsp1)) ?_
    refine RS.q rfl (QO.move) ?_
    refine RS.split (dj := 98) (by rfl) (fun hb45 => ?_) (fun hb45 => ?_)
    · refine RS.off (dj := 98) rfl (.inl (congrArg Value.bool hb45)) (fun _ => rfl) rfl ?_
      refine RS.off (dj := 98) rfl (.inl (congrArg Value.bool hb45)) (fun _ => rfl) rfl ?_
      refine RS.off (dj := 98) rfl (.inl (congrArg Value.bool hb45)) (fun _ => rfl) rfl ?_
      refine RS.on (dj := 94) rfl (congrArg Value.bool (beq_iff_eq.2 hsp1)) ?_
      refine RS.q rfl (QO.pickT (by rfl) hb45 (by rfl)) ?_
      refine RS.on (dj := 94) rfl (congrArg Value.bool (beq_iff_eq.2 hsp1)) ?_
      refine RS.q rfl (QO.move) ?_
      refine RS.off (dj := 103) rfl (.inl (congrArg Value.bool rfl)) (fun _ => rfl) rfl ?_
      refine RS.off (dj := 103) rfl (.inl (congrArg Value.bool rfl)) (fun _ => rfl) rfl ?_
      refine RS.off (dj := 103) rfl (.inl (congrArg Value.bool rfl)) (fun _ => rfl) rfl ?_
      refine RS.on (dj := 94) rfl (congrArg Value.bool (beq_iff_eq.2 hsp1)) ?_
      refine RS.q rfl (QO.pickT (by rfl) rfl (by rfl)) ?_
      refine RS.on (dj := 94) rfl (congrArg Value.bool (beq_iff_eq.2 hsp1)) ?_
      refine RS.q rfl (QO.move) ?_
      refine RS.off (dj := 108) rfl (.inl (congrArg Value.bool rfl)) (fun _ => rfl) rfl ?_
      refine RS.off (dj := 108) rfl (.inl (congrArg Value.bool rfl)) (fun _ => rfl) rfl ?_
      refine RS.off (dj := 108) rfl (.inl (congrArg Value.bool rfl)) (fun _ => rfl) rfl ?_
      refine RS.on (dj := 94) rfl (congrArg Value.bool (beq_iff_eq.2 hsp1)) ?_
      refine RS.q rfl (QO.pickT (by rfl) rfl (by rfl)) ?_
      refine RS.on (dj := 94) rfl (congrArg Value.bool (beq_iff_eq.2 hsp1)) ?_
      refine RS.q rfl (QO.move) ?_
      refine RS.off (dj := 113) rfl (.inl (congrArg Value.bool rfl)) (fun _ => rfl) rfl ?_
      refine RS.off (dj := 113) rfl (.inl (congrArg Value.bool rfl)) (fun _ => rfl) rfl ?_
      refine RS.off (dj := 113) rfl (.inl (congrArg Value.bool rfl)) (fun _ => rfl) rfl ?_
      refine RS.on (dj := 94) rfl (congrArg Value.bool (beq_iff_eq.2 hsp1)) ?_
      refine RS.q rfl (QO.pickT (by rfl) rfl (by rfl)) ?_
      refine RS.q rfl (QO.pickT (by rfl) (beq_iff_eq.2 hsp1) (by rfl)) ?_
      refine RS.q rfl (QO.assign) ?_
      refine RS.nil ?_
      refine thenC_n ?_
      refine CS.condT (by rfl) rfl ?_
      refine CS.skip ?_
      refine thenC_n ?_
      refine CS.condT (by rfl) rfl ?_
      refine CS.seq ?_
      refine CS.region ?_
      refine RS.q rfl (QO.assign) ?_
      refine RS.nil ?_
      refine thenC_n ?_
      refine CS.ret ?_
      refine blockC_r ?_
      refine thenC_r ?_
      refine retQ.mk (H' := []) (.inr rfl) (RVs.tmp (by rfl) RVs.nil) (List.nil_sublist _) ?_
      exact ⟨congrArg iv (winE_6 (by omega) (by unfold numW; assumption) (outW_f (by assumption) (by assumption) (by assumption) (by assumption) (by assumption)) (by unfold badP; omega) (by assumption) (cnf_1 (by assumption) (by assumption))), rfl⟩
    refine RS.on (dj := 98) rfl (congrArg Value.bool hb45) ?_
    refine RS.q rfl (QO.fieldAddr fo61_2 (by rfl)) ?_
    refine RS.on (dj := 98) rfl (congrArg Value.bool hb45) ?_
    refine RS.q rfl (QO.load ty29 (by rfl) (by repeat (first | exact List.Mem.head _ | refine List.Mem.tail _ ?_)) (by rfl)) ?_
    refine RS.on (dj := 98) rfl (congrArg Value.bool hb45) ?_
    refine RS.q rfl (QO.fcmp32 (by rfl) (by rfl) (by simp)) ?_
    refine RS.on (dj := 94) rfl (congrArg Value.bool (beq_iff_eq.2 hsp1)) ?_
    refine RS.q rfl (QO.pickF (by rfl) hb45 (by rfl)) ?_
    refine RS.on (dj := 94) rfl (congrArg Value.bool (beq_iff_eq.2 hsp1)) ?_
    refine RS.q rfl (QO.move) ?_
    refine RS.split (dj := 103) (by rfl) (fun hb46 => ?_) (fun hb46 => ?_)
    · refine RS.off (dj := 103) rfl (.inl (congrArg Value.bool hb46)) (fun _ => rfl) rfl ?_
      refine RS.off (dj := 103) rfl (.inl (congrArg Value.bool hb46)) (fun _ => rfl) rfl ?_
      refine RS.off (dj := 103) rfl (.inl (congrArg Value.bool hb46)) (fun _ => rfl) rfl ?_
      refine RS.on (dj := 94) rfl (congrArg Value.bool (beq_iff_eq.2 hsp1)) ?_
      refine RS.q rfl (QO.pickT (by rfl) hb46 (by rfl)) ?_
      refine RS.on (dj := 94) rfl (congrArg Value.bool (beq_iff_eq.2 hsp1)) ?_
      refine RS.q rfl (QO.move) ?_
      refine RS.off (dj := 108) rfl (.inl (congrArg Value.bool rfl)) (fun _ => rfl) rfl ?_
      refine RS.off (dj := 108) rfl (.inl (congrArg Value.bool rfl)) (fun _ => rfl) rfl ?_
      refine RS.off (dj := 108) rfl (.inl (congrArg Value.bool rfl)) (fun _ => rfl) rfl ?_
      refine RS.on (dj := 94) rfl (congrArg Value.bool (beq_iff_eq.2 hsp1)) ?_
      refine RS.q rfl (QO.pickT (by rfl) rfl (by rfl)) ?_
      refine RS.on (dj := 94) rfl (congrArg Value.bool (beq_iff_eq.2 hsp1)) ?_
      refine RS.q rfl (QO.move) ?_
      refine RS.off (dj := 113) rfl (.inl (congrArg Value.bool rfl)) (fun _ => rfl) rfl ?_
      refine RS.off (dj := 113) rfl (.inl (congrArg Value.bool rfl)) (fun _ => rfl) rfl ?_
      refine RS.off (dj := 113) rfl (.inl (congrArg Value.bool rfl)) (fun _ => rfl) rfl ?_
      refine RS.on (dj := 94) rfl (congrArg Value.bool (beq_iff_eq.2 hsp1)) ?_
      refine RS.q rfl (QO.pickT (by rfl) rfl (by rfl)) ?_
      refine RS.q rfl (QO.pickT (by rfl) (beq_iff_eq.2 hsp1) (by rfl)) ?_
      refine RS.q rfl (QO.assign) ?_
      refine RS.nil ?_
      refine thenC_n ?_
      refine CS.condT (by rfl) rfl ?_
      refine CS.skip ?_
      refine thenC_n ?_
      refine CS.condT (by rfl) rfl ?_
      refine CS.seq ?_
      refine CS.region ?_
      refine RS.q rfl (QO.assign) ?_
      refine RS.nil ?_
      refine thenC_n ?_
      refine CS.ret ?_
      refine blockC_r ?_
      refine thenC_r ?_
      refine retQ.mk (H' := []) (.inr rfl) (RVs.tmp (by rfl) RVs.nil) (List.nil_sublist _) ?_
      exact ⟨congrArg iv (winE_6 (by omega) (by unfold numW; assumption) (outW_f (by assumption) (by assumption) (by assumption) (by assumption) (by assumption)) (by unfold badP; omega) (by assumption) (cnf_2 (by assumption) (by assumption))), rfl⟩
    refine RS.on (dj := 103) rfl (congrArg Value.bool hb46) ?_
    refine RS.q rfl (QO.fieldAddr fo61_3 (by rfl)) ?_
    refine RS.on (dj := 103) rfl (congrArg Value.bool hb46) ?_
    refine RS.q rfl (QO.load ty29 (by rfl) (by repeat (first | exact List.Mem.head _ | refine List.Mem.tail _ ?_)) (by rfl)) ?_
    refine RS.on (dj := 103) rfl (congrArg Value.bool hb46) ?_
    refine RS.q rfl (QO.fcmp32 (by rfl) (by rfl) (by simp)) ?_
    refine RS.on (dj := 94) rfl (congrArg Value.bool (beq_iff_eq.2 hsp1)) ?_
    refine RS.q rfl (QO.pickF (by rfl) hb46 (by rfl)) ?_
    refine RS.on (dj := 94) rfl (congrArg Value.bool (beq_iff_eq.2 hsp1)) ?_
    refine RS.q rfl (QO.move) ?_
    refine RS.split (dj := 108) (by rfl) (fun hb47 => ?_) (fun hb47 => ?_)
    · refine RS.off (dj := 108) rfl (.inl (congrArg Value.bool hb47)) (fun _ => rfl) rfl ?_
      refine RS.off (dj := 108) rfl (.inl (congrArg Value.bool hb47)) (fun _ => rfl) rfl ?_
      refine RS.off (dj := 108) rfl (.inl (congrArg Value.bool hb47)) (fun _ => rfl) rfl ?_
      refine RS.on (dj := 94) rfl (congrArg Value.bool (beq_iff_eq.2 hsp1)) ?_
      refine RS.q rfl (QO.pickT (by rfl) hb47 (by rfl)) ?_
      refine RS.on (dj := 94) rfl (congrArg Value.bool (beq_iff_eq.2 hsp1)) ?_
      refine RS.q rfl (QO.move) ?_
      refine RS.off (dj := 113) rfl (.inl (congrArg Value.bool rfl)) (fun _ => rfl) rfl ?_
      refine RS.off (dj := 113) rfl (.inl (congrArg Value.bool rfl)) (fun _ => rfl) rfl ?_
      refine RS.off (dj := 113) rfl (.inl (congrArg Value.bool rfl)) (fun _ => rfl) rfl ?_
      refine RS.on (dj := 94) rfl (congrArg Value.bool (beq_iff_eq.2 hsp1)) ?_
      refine RS.q rfl (QO.pickT (by rfl) rfl (by rfl)) ?_
      refine RS.q rfl (QO.pickT (by rfl) (beq_iff_eq.2 hsp1) (by rfl)) ?_
      refine RS.q rfl (QO.assign) ?_
      refine RS.nil ?_
      refine thenC_n ?_
      refine CS.condT (by rfl) rfl ?_
      refine CS.skip ?_
      refine thenC_n ?_
      refine CS.condT (by rfl) rfl ?_
      refine CS.seq ?_
      refine CS.region ?_
      refine RS.q rfl (QO.assign) ?_
      refine RS.nil ?_
      refine thenC_n ?_
      refine CS.ret ?_
      refine blockC_r ?_
      refine thenC_r ?_
      refine retQ.mk (H' := []) (.inr rfl) (RVs.tmp (by rfl) RVs.nil) (List.nil_sublist _) ?_
      exact ⟨congrArg iv (winE_6 (by omega) (by unfold numW; assumption) (outW_f (by assumption) (by assumption) (by assumption) (by assumption) (by assumption)) (by unfold badP; omega) (by assumption) (cnf_3 (by assumption) (by assumption))), rfl⟩
    refine RS.on (dj := 108) rfl (congrArg Value.bool hb47) ?_
    refine RS.q rfl (QO.fieldAddr fo61_4 (by rfl)) ?_
    refine RS.on (dj := 108) rfl (congrArg Value.bool hb47) ?_
    refine RS.q rfl (QO.load ty29 (by rfl) (by repeat (first | exact List.Mem.head _ | refine List.Mem.tail _ ?_)) (by rfl)) ?_
    refine RS.on (dj := 108) rfl (congrArg Value.bool hb47) ?_
    refine RS.q rfl (QO.fcmp32 (by rfl) (by rfl) (by simp)) ?_
    refine RS.on (dj := 94) rfl (congrArg Value.bool (beq_iff_eq.2 hsp1)) ?_
    refine RS.q rfl (QO.pickF (by rfl) hb47 (by rfl)) ?_
    refine RS.on (dj := 94) rfl (congrArg Value.bool (beq_iff_eq.2 hsp1)) ?_
    refine RS.q rfl (QO.move) ?_
    refine RS.split (dj := 113) (by rfl) (fun hb48 => ?_) (fun hb48 => ?_)
    · refine RS.off (dj := 113) rfl (.inl (congrArg Value.bool hb48)) (fun _ => rfl) rfl ?_
      refine RS.off (dj := 113) rfl (.inl (congrArg Value.bool hb48)) (fun _ => rfl) rfl ?_
      refine RS.off (dj := 113) rfl (.inl (congrArg Value.bool hb48)) (fun _ => rfl) rfl ?_
      refine RS.on (dj := 94) rfl (congrArg Value.bool (beq_iff_eq.2 hsp1)) ?_
      refine RS.q rfl (QO.pickT (by rfl) hb48 (by rfl)) ?_
      refine RS.q rfl (QO.pickT (by rfl) (beq_iff_eq.2 hsp1) (by rfl)) ?_
      refine RS.q rfl (QO.assign) ?_
      refine RS.nil ?_
      refine thenC_n ?_
      refine CS.condT (by rfl) rfl ?_
      refine CS.skip ?_
      refine thenC_n ?_
      refine CS.condT (by rfl) rfl ?_
      refine CS.seq ?_
      refine CS.region ?_
      refine RS.q rfl (QO.assign) ?_
      refine RS.nil ?_
      refine thenC_n ?_
      refine CS.ret ?_
      refine blockC_r ?_
      refine thenC_r ?_
      refine retQ.mk (H' := []) (.inr rfl) (RVs.tmp (by rfl) RVs.nil) (List.nil_sublist _) ?_
      exact ⟨congrArg iv (winE_6 (by omega) (by unfold numW; assumption) (outW_f (by assumption) (by assumption) (by assumption) (by assumption) (by assumption)) (by unfold badP; omega) (by assumption) (cnf_4 (by assumption) (by assumption))), rfl⟩
    refine RS.on (dj := 113) rfl (congrArg Value.bool hb48) ?_
    refine RS.q rfl (QO.fieldAddr fo61_5 (by rfl)) ?_
    refine RS.on (dj := 113) rfl (congrArg Value.bool hb48) ?_
    refine RS.q rfl (QO.load ty29 (by rfl) (by repeat (first | exact List.Mem.head _ | refine List.Mem.tail _ ?_)) (by rfl)) ?_
    refine RS.on (dj := 113) rfl (congrArg Value.bool hb48) ?_
    refine RS.q rfl (QO.fcmp32 (by rfl) (by rfl) (by simp)) ?_
    refine RS.on (dj := 94) rfl (congrArg Value.bool (beq_iff_eq.2 hsp1)) ?_
    refine RS.q rfl (QO.pickF (by rfl) hb48 (by rfl)) ?_
    refine RS.q rfl (QO.pickT (by rfl) (beq_iff_eq.2 hsp1) (by rfl)) ?_
    refine RS.q rfl (QO.assign) ?_
    refine RS.nil ?_
    refine thenC_n ?_
    refine CS.cond (by rfl) (fun hb49 => ?_) (fun hb49 => ?_)
    · refine CS.skip ?_
      refine thenC_n ?_
      refine CS.condT (by rfl) hb49 ?_
      refine CS.seq ?_
      refine CS.region ?_
      refine RS.q rfl (QO.assign) ?_
      refine RS.nil ?_
      refine thenC_n ?_
      refine CS.ret ?_
      refine blockC_r ?_
      refine thenC_r ?_
      refine retQ.mk (H' := []) (.inr rfl) (RVs.tmp (by rfl) RVs.nil) (List.nil_sublist _) ?_
      exact ⟨congrArg iv (winE_6 (by omega) (by unfold numW; assumption) (outW_f (by assumption) (by assumption) (by assumption) (by assumption) (by assumption)) (by unfold badP; omega) (by assumption) (cnf_5 (by assumption) (by assumption))), rfl⟩
    refine CS.region ?_
    refine RS.q rfl (QO.fieldAddr fo61_0 (by rfl)) ?_
    refine RS.q rfl (QO.load ty3 (by rfl) (by repeat (first | exact List.Mem.head _ | refine List.Mem.tail _ ?_)) (by rfl)) ?_
    refine RS.q rfl (QO.eql (by rfl) (by rfl)) ?_
    refine RS.q rfl (QO.move) ?_
    refine RS.split (dj := 122) (by rfl) (fun hb50 => ?_) (fun hb50 => ?_)
    · have hb50p := eq_of_beq hb50
      refine RS.on (dj := 122) rfl (congrArg Value.bool hb50) ?_
      refine RS.q rfl (QO.fieldAddr fo61_3 (by rfl)) ?_
      refine RS.on (dj := 122) rfl (congrArg Value.bool hb50) ?_
      refine RS.q rfl (QO.load ty29 (by rfl) (by repeat (first | exact List.Mem.head _ | refine List.Mem.tail _ ?_)) (by rfl)) ?_
      refine RS.on (dj := 122) rfl (congrArg Value.bool hb50) ?_
      refine RS.q rfl (QO.fcmp32 (by rfl) (by rfl) (by simp)) ?_
      refine RS.on (dj := 122) rfl (congrArg Value.bool hb50) ?_
      refine RS.q rfl (QO.move) ?_
      refine RS.split (dj := 126) (by rfl) (fun hb51 => ?_) (fun hb51 => ?_)
      · refine RS.off (dj := 126) rfl (.inl (congrArg Value.bool hb51)) (fun _ => rfl) rfl ?_
        refine RS.off (dj := 126) rfl (.inl (congrArg Value.bool hb51)) (fun _ => rfl) rfl ?_
        refine RS.off (dj := 126) rfl (.inl (congrArg Value.bool hb51)) (fun _ => rfl) rfl ?_
        refine RS.on (dj := 122) rfl (congrArg Value.bool hb50) ?_
        refine RS.q rfl (QO.pickT (by rfl) hb51 (by rfl)) ?_
        refine RS.q rfl (QO.pickT (by rfl) hb50 (by rfl)) ?_
        refine RS.q rfl (QO.assign) ?_
        refine RS.nil ?_
        refine thenC_n ?_
        refine CS.condT (by rfl) rfl ?_
        refine CS.seq ?_
        refine CS.region ?_
        refine RS.q rfl (QO.assign) ?_
        refine RS.nil ?_
        refine thenC_n ?_
        refine CS.ret ?_
        refine blockC_r ?_
        refine thenC_r ?_
        refine retQ.mk (H' := []) (.inr rfl) (RVs.tmp (by rfl) RVs.nil) (List.nil_sublist _) ?_
        exact ⟨congrArg iv (winE_6 (by omega) (by unfold numW; assumption) (outW_f (by assumption) (by assumption) (by assumption) (by assumption) (by assumption)) (by unfold badP; omega) (by assumption) (cnf_6 (by assumption) (by assumption))), rfl⟩
      refine RS.on (dj := 126) rfl (congrArg Value.bool hb51) ?_
      refine RS.q rfl (QO.fieldAddr fo61_4 (by rfl)) ?_
      refine RS.on (dj := 126) rfl (congrArg Value.bool hb51) ?_
      refine RS.q rfl (QO.load ty29 (by rfl) (by repeat (first | exact List.Mem.head _ | refine List.Mem.tail _ ?_)) (by rfl)) ?_
      refine RS.on (dj := 126) rfl (congrArg Value.bool hb51) ?_
      refine RS.q rfl (QO.fcmp32 (by rfl) (by rfl) (by simp)) ?_
      refine RS.on (dj := 122) rfl (congrArg Value.bool hb50) ?_
      refine RS.q rfl (QO.pickF (by rfl) hb51 (by rfl)) ?_
      refine RS.q rfl (QO.pickT (by rfl) hb50 (by rfl)) ?_
      refine RS.q rfl (QO.assign) ?_
      refine RS.nil ?_
      refine thenC_n ?_
      refine CS.cond (by rfl) (fun hb52 => ?_) (fun hb52 => ?_)
      · refine CS.seq ?_
        refine CS.region ?_
        refine RS.q rfl (QO.assign) ?_
        refine RS.nil ?_
        refine thenC_n ?_
        refine CS.ret ?_
        refine blockC_r ?_
        refine thenC_r ?_
        refine retQ.mk (H' := []) (.inr rfl) (RVs.tmp (by rfl) RVs.nil) (List.nil_sublist _) ?_
        exact ⟨congrArg iv (winE_6 (by omega) (by unfold numW; assumption) (outW_f (by assumption) (by assumption) (by assumption) (by assumption) (by assumption)) (by unfold badP; omega) (by assumption) (cnf_7 (by assumption) (by assumption))), rfl⟩
      refine CS.skip ?_
      refine blockC_n ?_
      refine thenC_n ?_
      refine CS.seq ?_
      refine CS.region ?_
      refine RS.q rfl (QO.assign) ?_
      refine RS.nil ?_
      refine thenC_n ?_
      refine CS.ret ?_
      refine retQ.mk (H' := []) (.inr rfl) (RVs.tmp (by rfl) RVs.nil) (List.nil_sublist _) ?_
      exact ⟨congrArg iv (winE_0 (by omega) (by unfold numW; assumption) (outW_f (by assumption) (by assumption) (by assumption) (by assumption) (by assumption)) (by unfold badP; omega) (by assumption) (cnf_a (by assumption) (by assumption) (by assumption) (by assumption) (by assumption) (by assumption))), rfl⟩
    have hb50p := ne_of_beq_false hb50
    refine RS.off (dj := 122) rfl (.inl (congrArg Value.bool hb50)) (fun _ => rfl) rfl ?_
    refine RS.off (dj := 122) rfl (.inl (congrArg Value.bool hb50)) (fun _ => rfl) rfl ?_
    refine RS.off (dj := 122) rfl (.inl (congrArg Value.bool hb50)) (fun _ => rfl) rfl ?_
    refine RS.off (dj := 122) rfl (.inl (congrArg Value.bool hb50)) (fun _ => rfl) rfl ?_
    refine RS.off (dj := 126) (c := true) rfl (.inr rfl) (fun h => by cases h) rfl ?_
    refine RS.off (dj := 126) (c := true) rfl (.inr rfl) (fun h => by cases h) rfl ?_
    refine RS.off (dj := 126) (c := true) rfl (.inr rfl) (fun h => by cases h) rfl ?_
    refine RS.off (dj := 122) rfl (.inl (congrArg Value.bool hb50)) (fun _ => rfl) rfl ?_
    refine RS.q rfl (QO.pickF (by rfl) hb50 (by rfl)) ?_
    refine RS.q rfl (QO.assign) ?_
    refine RS.nil ?_
    refine thenC_n ?_
    refine CS.condF (by rfl) rfl ?_
    refine CS.skip ?_
    refine blockC_n ?_
    refine thenC_n ?_
    refine CS.seq ?_
    refine CS.region ?_
    refine RS.q rfl (QO.assign) ?_
    refine RS.nil ?_
    refine thenC_n ?_
    refine CS.ret ?_
    refine retQ.mk (H' := []) (.inr rfl) (RVs.tmp (by rfl) RVs.nil) (List.nil_sublist _) ?_
    exact ⟨congrArg iv (winE_0 (by omega) (by unfold numW; assumption) (outW_f (by assumption) (by assumption) (by assumption) (by assumption) (by assumption)) (by unfold badP; omega) (by assumption) (cnf_a (by assumption) (by assumption) (by assumption) (by assumption) (by assumption) (by assumption))), rfl⟩
  refine CS.region ?_
  refine RS.q rfl (QO.fieldAddr fo61_0 (by rfl)) ?_
  refine RS.q rfl (QO.load ty3 (by rfl) (by repeat (first | exact List.Mem.head _ | refine List.Mem.tail _ ?_)) (by rfl)) ?_
  refine RS.q rfl (QO.eql (by rfl) (by rfl)) ?_
  refine RS.q rfl (QO.assign) ?_
  refine RS.nil ?_
  refine thenC_n ?_
  refine CS.seq ?_
  refine CS.region ?_
  refine RS.q rfl (QO.assign) ?_
  refine RS.nil ?_
  refine thenC_n ?_
  refine CS.seq ?_
  refine CS.block ?_
  refine CS.seq ?_
  refine CS.region ?_
  refine RS.q rfl (QO.fieldAddr fo61_0 (by rfl)) ?_
  refine RS.q rfl (QO.load ty3 (by rfl) (by repeat (first | exact List.Mem.head _ | refine List.Mem.tail _ ?_)) (by rfl)) ?_
  refine RS.q rfl (QO.neq (by rfl) (by rfl)) ?_
  refine RS.q rfl (QO.move) ?_
  refine RS.split (dj := 12) (by rfl) (fun hb53 => ?_) (fun hb53 => ?_)
  · have hb53p := bne_iff_ne.1 hb53
    refine RS.on (dj := 12) rfl (congrArg Value.bool hb53) ?_
    refine RS.q rfl (QO.fieldAddr fo61_0 (by rfl)) ?_
    refine RS.on (dj := 12) rfl (congrArg Value.bool hb53) ?_
    refine RS.q rfl (QO.load ty3 (by rfl) (by repeat (first | exact List.Mem.head _ | refine List.Mem.tail _ ?_)) (by rfl)) ?_
    refine RS.on (dj := 12) rfl (congrArg Value.bool hb53) ?_
    refine RS.q rfl (QO.neq (by rfl) (by rfl)) ?_
    refine RS.q rfl (QO.pickT (by rfl) hb53 (by rfl)) ?_
    refine RS.q rfl (QO.move) ?_
    refine RS.split (dj := 17) (by rfl) (fun hb54 => ?_) (fun hb54 => ?_)
    · have hb54p := bne_iff_ne.1 hb54
      refine RS.on (dj := 17) rfl (congrArg Value.bool hb54) ?_
      refine RS.q rfl (QO.move) ?_
      refine RS.on (dj := 17) rfl (congrArg Value.bool hb54) ?_
      refine RS.q rfl (QO.not (by rfl)) ?_
      refine RS.q rfl (QO.pickT (by rfl) hb54 (by rfl)) ?_
      refine RS.q rfl (QO.assign) ?_
      refine RS.nil ?_
      refine thenC_n ?_
      refine CS.condT (by rfl) (by rw [(beq_eq_false_iff_ne.2 hsp1)] <;> rfl) ?_
      refine CS.seq ?_
      refine CS.region ?_
      refine RS.q rfl (QO.assign) ?_
      refine RS.nil ?_
      refine thenC_n ?_
      refine CS.ret ?_
      refine blockC_r ?_
      refine thenC_r ?_
      refine retQ.mk (H' := []) (.inr rfl) (RVs.tmp (by rfl) RVs.nil) (List.nil_sublist _) ?_
      exact ⟨congrArg iv (winE_1 (by omega)), rfl⟩
    have hb54p := of_bne_false hb54
    refine RS.off (dj := 17) rfl (.inl (congrArg Value.bool hb54)) (fun _ => rfl) rfl ?_
    refine RS.off (dj := 17) rfl (.inl (congrArg Value.bool hb54)) (fun _ => rfl) rfl ?_
    refine RS.q rfl (QO.pickF (by rfl) hb54 (by rfl)) ?_
    refine RS.q rfl (QO.assign) ?_
    refine RS.nil ?_
    refine thenC_n ?_
    refine CS.condF (by rfl) rfl ?_
    refine CS.seq ?_
    refine CS.region ?_
    refine RS.q rfl (QO.fieldAddr fo61_1 (by rfl)) ?_
    refine RS.q rfl (QO.load ty29 (by rfl) (by repeat (first | exact List.Mem.head _ | refine List.Mem.tail _ ?_)) (by rfl)) ?_
    refine RS.q rfl (QO.fieldAddr fo61_2 (by rfl)) ?_
    refine RS.q rfl (QO.load ty29 (by rfl) (by repeat (first | exact List.Mem.head _ | refine List.Mem.tail _ ?_)) (by rfl)) ?_
    refine RS.q rfl (QO.fieldAddr fo61_3 (by rfl)) ?_
    refine RS.q rfl (QO.load ty29 (by rfl) (by repeat (first | exact List.Mem.head _ | refine List.Mem.tail _ ?_)) (by rfl)) ?_
    refine RS.q rfl (QO.fieldAddr fo61_4 (by rfl)) ?_
    refine RS.q rfl (QO.load ty29 (by rfl) (by repeat (first | exact List.Mem.head _ | refine List.Mem.tail _ ?_)) (by rfl)) ?_
    refine RS.q rfl (QO.fieldAddr fo61_5 (by rfl)) ?_
    refine RS.q rfl (QO.load ty29 (by rfl) (by repeat (first | exact List.Mem.head _ | refine List.Mem.tail _ ?_)) (by rfl)) ?_
    refine RS.buildSlice rfl Try.underlying24 ty29 (by decide) (by decide) (by rfl) (by rfl) ?_
    intro g32
    refine RS.call rfl (by rfl) ok128 (by rfl) (fun w ho => allNumbers (some ⟨g32, 0, none⟩) 5 5 [u.x, u.y, u.w, u.h, u.soft] _ rfl (FS.blk' (xs := [u.x, u.y, u.w, u.h, u.soft]) ho (by repeat (first | exact List.Mem.head _ | refine List.Mem.tail _ ?_))) (by decide)) ?_
    rintro _ _ ⟨rfl, rfl⟩
    refine RS.q rfl (QO.not (by rfl)) ?_
    refine RS.q rfl (QO.assign) ?_
    refine RS.nil ?_
    refine thenC_n ?_
    refine CS.cond (by rfl) (fun hb55 => ?_) (fun hb55 => ?_)
    · have hb55p := Eq.mp (Bool.not_eq_true' _) hb55
      refine CS.seq ?_
      refine CS.region ?_
      refine RS.q rfl (QO.assign) ?_
      refine RS.nil ?_
      refine thenC_n ?_
      refine CS.ret ?_
      refine blockC_r ?_
      refine thenC_r ?_
      refine retQ.mk (H' := []) (.inr rfl) (RVs.tmp (by rfl) RVs.nil) (List.nil_sublist _) ?_
      exact ⟨congrArg iv (winE_2 (by omega) (by unfold numW; assumption)), rfl⟩
    have hb55p := Eq.mp (Bool.not_eq_false' _) hb55
    refine CS.seq ?_
    refine CS.region ?_
    refine RS.q rfl (QO.move) ?_
    refine RS.q rfl (QO.fieldAddr fo61_1 (by rfl)) ?_
    refine RS.q rfl (QO.load ty29 (by rfl) (by repeat (first | exact List.Mem.head _ | refine List.Mem.tail _ ?_)) (by rfl)) ?_
    refine RS.call rfl (by rfl) ok127 (by rfl) (fun w ho => outW1 u.x 3380609024 1233125376 _) ?_
    rintro _ _ ⟨rfl, rfl⟩
    refine RS.q rfl (QO.move) ?_
    refine RS.split (dj := 40) (by rfl) (fun hb56 => ?_) (fun hb56 => ?_)
    · refine RS.off (dj := 40) rfl (.inl (congrArg Value.bool hb56)) (fun _ => rfl) rfl ?_
      refine RS.off (dj := 40) rfl (.inl (congrArg Value.bool hb56)) (fun _ => rfl) rfl ?_
      refine RS.off (dj := 40) rfl (.inl (congrArg Value.bool hb56)) (fun _ => rfl) rfl ?_
      refine RS.off (dj := 40) rfl (.inl (congrArg Value.bool hb56)) (fun _ => rfl) rfl ?_
      refine RS.q rfl (QO.pickT (by rfl) hb56 (by rfl)) ?_
      refine RS.q rfl (QO.move) ?_
      refine RS.off (dj := 46) rfl (.inl (congrArg Value.bool rfl)) (fun _ => rfl) rfl ?_
      refine RS.off (dj := 46) rfl (.inl (congrArg Value.bool rfl)) (fun _ => rfl) rfl ?_
      refine RS.off (dj := 46) rfl (.inl (congrArg Value.bool rfl)) (fun _ => rfl) rfl ?_
      refine RS.off (dj := 46) rfl (.inl (congrArg Value.bool rfl)) (fun _ => rfl) rfl ?_
      refine RS.q rfl (QO.pickT (by rfl) rfl (by rfl)) ?_
      refine RS.q rfl (QO.move) ?_
      refine RS.off (dj := 52) rfl (.inl (congrArg Value.bool rfl)) (fun _ => rfl) rfl ?_
      refine RS.off (dj := 52) rfl (.inl (congrArg Value.bool rfl)) (fun _ => rfl) rfl ?_
      refine RS.off (dj := 52) rfl (.inl (congrArg Value.bool rfl)) (fun _ => rfl) rfl ?_
      refine RS.off (dj := 52) rfl (.inl (congrArg Value.bool rfl)) (fun _ => rfl) rfl ?_
      refine RS.q rfl (QO.pickT (by rfl) rfl (by rfl)) ?_
      refine RS.q rfl (QO.move) ?_
      refine RS.off (dj := 58) rfl (.inl (congrArg Value.bool rfl)) (fun _ => rfl) rfl ?_
      refine RS.off (dj := 58) rfl (.inl (congrArg Value.bool rfl)) (fun _ => rfl) rfl ?_
      refine RS.off (dj := 58) rfl (.inl (congrArg Value.bool rfl)) (fun _ => rfl) rfl ?_
      refine RS.off (dj := 58) rfl (.inl (congrArg Value.bool rfl)) (fun _ => rfl) rfl ?_
      refine RS.q rfl (QO.pickT (by rfl) rfl (by rfl)) ?_
      refine RS.q rfl (QO.assign) ?_
      refine RS.nil ?_
      refine thenC_n ?_
      refine CS.condT (by rfl) rfl ?_
      refine CS.seq ?_
      refine CS.region ?_
      refine RS.q rfl (QO.assign) ?_
      refine RS.nil ?_
      refine thenC_n ?_
      refine CS.ret ?_
      refine blockC_r ?_
      refine thenC_r ?_
      refine retQ.mk (H' := []) (.inr rfl) (RVs.tmp (by rfl) RVs.nil) (List.nil_sublist _) ?_
      exact ⟨congrArg iv (winE_3 (by omega) (by unfold numW; assumption) (outW_1 (by assumption))), rfl⟩
    refine RS.on (dj := 40) rfl (congrArg Value.bool hb56) ?_
    refine RS.q rfl (QO.move) ?_
    refine RS.on (dj := 40) rfl (congrArg Value.bool hb56) ?_
    refine RS.q rfl (QO.fieldAddr fo61_2 (by rfl)) ?_
    refine RS.on (dj := 40) rfl (congrArg Value.bool hb56) ?_
    refine RS.q rfl (QO.load ty29 (by rfl) (by repeat (first | exact List.Mem.head _ | refine List.Mem.tail _ ?_)) (by rfl)) ?_
    refine RS.on (dj := 40) rfl (congrArg Value.bool hb56) ?_
    refine RS.call rfl (by rfl) ok127 (by rfl) (fun w ho => outW1 u.y 3380609024 1233125376 _) ?_
    rintro _ _ ⟨rfl, rfl⟩
    refine RS.q rfl (QO.pickF (by rfl) hb56 (by rfl)) ?_
    refine RS.q rfl (QO.move) ?_
    refine RS.split (dj := 46) (by rfl) (fun hb57 => ?_) (fun hb57 => ?_)
    · refine RS.off (dj := 46) rfl (.inl (congrArg Value.bool hb57)) (fun _ => rfl) rfl ?_
      refine RS.off (dj := 46) rfl (.inl (congrArg Value.bool hb57)) (fun _ => rfl) rfl ?_
      refine RS.off (dj := 46) rfl (.inl (congrArg Value.bool hb57)) (fun _ => rfl) rfl ?_
      refine RS.off (dj := 46) rfl (.inl (congrArg Value.bool hb57)) (fun _ => rfl) rfl ?_
      refine RS.q rfl (QO.pickT (by rfl) hb57 (by rfl)) ?_
      refine RS.q rfl (QO.move) ?_
      refine RS.off (dj := 52) rfl (.inl (congrArg Value.bool rfl)) (fun _ => rfl) rfl ?_
      refine RS.off (dj := 52) rfl (.inl (congrArg Value.bool rfl)) (fun _ => rfl) rfl ?_
      refine RS.off (dj := 52) rfl (.inl (congrArg Value.bool rfl)) (fun _ => rfl) rfl ?_
      refine RS.off (dj := 52) rfl (.inl (congrArg Value.bool rfl)) (fun _ => rfl) rfl ?_
      refine RS.q rfl (QO.pickT (by rfl) rfl (by rfl)) ?_
      refine RS.q rfl (QO.move) ?_
      refine RS.off (dj := 58) rfl (.inl (congrArg Value.bool rfl)) (fun _ => rfl) rfl ?_
      refine RS.off (dj := 58) rfl (.inl (congrArg Value.bool rfl)) (fun _ => rfl) rfl ?_
      refine RS.off (dj := 58) rfl (.inl (congrArg Value.bool rfl)) (fun _ => rfl) rfl ?_
      refine RS.off (dj := 58) rfl (.inl (congrArg Value.bool rfl)) (fun _ => rfl) rfl ?_
      refine RS.q rfl (QO.pickT (by rfl) rfl (by rfl)) ?_
      refine RS.q rfl (QO.assign) ?_
      refine RS.nil ?_
      refine thenC_n ?_
      refine CS.condT (by rfl) rfl ?_
      refine CS.seq ?_
      refine CS.region ?_
      refine RS.q rfl (QO.assign) ?_
      refine RS.nil ?_
      refine thenC_n ?_
      refine CS.ret ?_
      refine blockC_r ?_
      refine thenC_r ?_
      refine retQ.mk (H' := []) (.inr rfl) (RVs.tmp (by rfl) RVs.nil) (List.nil_sublist _) ?_
      exact ⟨congrArg iv (winE_3 (by omega) (by unfold numW; assumption) (outW_2 (by assumption))), rfl⟩
    refine RS.on (dj := 46) rfl (congrArg Value.bool hb57) ?_
    refine RS.q rfl (QO.move) ?_
    refine RS.on (dj := 46) rfl (congrArg Value.bool hb57) ?_
    refine RS.q rfl (QO.fieldAddr fo61_3 (by rfl)) ?_
    refine RS.on (dj := 46) rfl (congrArg Value.bool hb57) ?_
    refine RS.q rfl (QO.load ty29 (by rfl) (by repeat (first | exact List.Mem.head _ | refine List.Mem.tail _ ?_)) (by rfl)) ?_
    refine RS.on (dj := 46) rfl (congrArg Value.bool hb57) ?_
    refine RS.call rfl (by rfl) ok127 (by rfl) (fun w ho => outW1 u.w 0 1233125376 _) ?_
    rintro _ _ ⟨rfl, rfl⟩
    refine RS.q rfl (QO.pickF (by rfl) hb57 (by rfl)) ?_
    refine RS.q rfl (QO.move) ?_
    refine RS.split (dj := 52) (by rfl) (fun hb58 => ?_) (fun hb58 => ?_)
    · refine RS.off (dj := 52) rfl (.inl (congrArg Value.bool hb58)) (fun _ => rfl) rfl ?_
      refine RS.off (dj := 52) rfl (.inl (congrArg Value.bool hb58)) (fun _ => rfl) rfl ?_
      refine RS.off (dj := 52) rfl (.inl (congrArg Value.bool hb58)) (fun _ => rfl) rfl ?_
      refine RS.off (dj := 52) rfl (.inl (congrArg Value.bool hb58)) (fun _ => rfl) rfl ?_
      refine RS.q rfl (QO.pickT (by rfl) hb58 (by rfl)) ?_
      refine RS.q rfl (QO.move) ?_
      refine RS.off (dj := 58) rfl (.inl (congrArg Value.bool rfl)) (fun _ => rfl) rfl ?_
      refine RS.off (dj := 58) rfl (.inl (congrArg Value.bool rfl)) (fun _ => rfl) rfl ?_
      refine RS.off (dj := 58) rfl (.inl (congrArg Value.bool rfl)) (fun _ => rfl) rfl ?_
      refine RS.off (dj := 58) rfl (.inl (congrArg Value.bool rfl)) (fun _ => rfl) rfl ?_
      refine RS.q rfl (QO.pickT (by rfl) rfl (by rfl)) ?_
      refine RS.q rfl (QO.assign) ?_
      refine RS.nil ?_
      refine thenC_n ?_
      refine CS.condT (by rfl) rfl ?_
      refine CS.seq ?_
      refine CS.region ?_
      refine RS.q rfl (QO.assign) ?_
      refine RS.nil ?_
      refine thenC_n ?_
      refine CS.ret ?_
      refine blockC_r ?_
      refine thenC_r ?_
      refine retQ.mk (H' := []) (.inr rfl) (RVs.tmp (by rfl) RVs.nil) (List.nil_sublist _) ?_
      exact ⟨congrArg iv (winE_3 (by omega) (by unfold numW; assumption) (outW_3 (by assumption))), rfl⟩
    refine RS.on (dj := 52) rfl (congrArg Value.bool hb58) ?_
    refine RS.q rfl (QO.move) ?_
    refine RS.on (dj := 52) rfl (congrArg Value.bool hb58) ?_
    refine RS.q rfl (QO.fieldAddr fo61_4 (by rfl)) ?_
    refine RS.on (dj := 52) rfl (congrArg Value.bool hb58) ?_
    refine RS.q rfl (QO.load ty29 (by rfl) (by repeat (first | exact List.Mem.head _ | refine List.Mem.tail _ ?_)) (by rfl)) ?_
    refine RS.on (dj := 52) rfl (congrArg Value.bool hb58) ?_
    refine RS.call rfl (by rfl) ok127 (by rfl) (fun w ho => outW1 u.h 0 1233125376 _) ?_
    rintro _ _ ⟨rfl, rfl⟩
    refine RS.q rfl (QO.pickF (by rfl) hb58 (by rfl)) ?_
    refine RS.q rfl (QO.move) ?_
    refine RS.split (dj := 58) (by rfl) (fun hb59 => ?_) (fun hb59 => ?_)
    · refine RS.off (dj := 58) rfl (.inl (congrArg Value.bool hb59)) (fun _ => rfl) rfl ?_
      refine RS.off (dj := 58) rfl (.inl (congrArg Value.bool hb59)) (fun _ => rfl) rfl ?_
      refine RS.off (dj := 58) rfl (.inl (congrArg Value.bool hb59)) (fun _ => rfl) rfl ?_
      refine RS.off (dj := 58) rfl (.inl (congrArg Value.bool hb59)) (fun _ => rfl) rfl ?_
      refine RS.q rfl (QO.pickT (by rfl) hb59 (by rfl)) ?_
      refine RS.q rfl (QO.assign) ?_
      refine RS.nil ?_
      refine thenC_n ?_
      refine CS.condT (by rfl) rfl ?_
      refine CS.seq ?_
      refine CS.region ?_
      refine RS.q rfl (QO.assign) ?_
      refine RS.nil ?_
      refine thenC_n ?_
      refine CS.ret ?_
      refine blockC_r ?_
      refine thenC_r ?_
      refine retQ.mk (H' := []) (.inr rfl) (RVs.tmp (by rfl) RVs.nil) (List.nil_sublist _) ?_
      exact ⟨congrArg iv (winE_3 (by omega) (by unfold numW; assumption) (outW_4 (by assumption))), rfl⟩
    refine RS.on (dj := 58) rfl (congrArg Value.bool hb59) ?_
    refine RS.q rfl (QO.move) ?_
    refine RS.on (dj := 58) rfl (congrArg Value.bool hb59) ?_
    refine RS.q rfl (QO.fieldAddr fo61_5 (by rfl)) ?_
    refine RS.on (dj := 58) rfl (congrArg Value.bool hb59) ?_
    refine RS.q rfl (QO.load ty29 (by rfl) (by repeat (first | exact List.Mem.head _ | refine List.Mem.tail _ ?_)) (by rfl)) ?_
    refine RS.on (dj := 58) rfl (congrArg Value.bool hb59) ?_
    refine RS.call rfl (by rfl) ok127 (by rfl) (fun w ho => outW1 u.soft 0 1166016512 _) ?_
    rintro _ _ ⟨rfl, rfl⟩
    refine RS.q rfl (QO.pickF (by rfl) hb59 (by rfl)) ?_
    refine RS.q rfl (QO.assign) ?_
    refine RS.nil ?_
    refine thenC_n ?_
    refine CS.cond (by rfl) (fun hb60 => ?_) (fun hb60 => ?_)
    · refine CS.seq ?_
      refine CS.region ?_
      refine RS.q rfl (QO.assign) ?_
      refine RS.nil ?_
      refine thenC_n ?_
      refine CS.ret ?_
      refine blockC_r ?_
      refine thenC_r ?_
      refine retQ.mk (H' := []) (.inr rfl) (RVs.tmp (by rfl) RVs.nil) (List.nil_sublist _) ?_
      exact ⟨congrArg iv (winE_3 (by omega) (by unfold numW; assumption) (outW_5 (by assumption))), rfl⟩
    refine CS.seq ?_
    refine CS.region ?_
    refine RS.q rfl (QO.move) ?_
    refine RS.q rfl (QO.move) ?_
    refine RS.off (dj := 66) rfl (.inl (congrArg Value.bool (beq_eq_false_iff_ne.2 hsp1))) (fun _ => rfl) rfl ?_
    refine RS.off (dj := 66) rfl (.inl (congrArg Value.bool (beq_eq_false_iff_ne.2 hsp1))) (fun _ => rfl) rfl ?_
    refine RS.off (dj := 66) rfl (.inl (congrArg Value.bool (beq_eq_false_iff_ne.2 hsp1))) (fun _ => rfl) rfl ?_
    refine RS.off (dj := 66) rfl (.inl (congrArg Value.bool (beq_eq_false_iff_ne.2 hsp1))) (fun _ => rfl) rfl ?_
    refine RS.off (dj := 66) rfl (.inl (congrArg Value.bool (beq_eq_false_iff_ne.2 hsp1))) (fun _ => rfl) rfl ?_
    refine RS.off (dj := 71) (c := true) rfl (.inr rfl) (fun h => by cases h) rfl ?_
    refine RS.off (dj := 71) (c := true) rfl (.inr rfl) (fun h => by cases h) rfl ?_
    refine RS.off (dj := 71) (c := true) rfl (.inr rfl) (fun h => by cases h) rfl ?_
    refine RS.off (dj := 71) (c := true) rfl (.inr rfl) (fun h => by cases h) rfl ?_
    refine RS.off (dj := 66) rfl (.inl (congrArg Value.bool (beq_eq_false_iff_ne.2 hsp1))) (fun _ => rfl) rfl ?_
    refine RS.q rfl (QO.pickF (by rfl) (beq_eq_false_iff_ne.2 hsp1) (by rfl)) ?_
    refine RS.q rfl (QO.move) ?_
    refine RS.on (dj := 78) rfl (congrArg Value.bool rfl) ?_
    refine RS.q rfl (QO.move) ?_
    refine RS.on (dj := 78) rfl (congrArg Value.bool rfl) ?_
    refine RS.q rfl (QO.not (by rfl)) ?_
    refine RS.on (dj := 78) rfl (congrArg Value.bool rfl) ?_
    refine RS.q rfl (QO.move) ?_
    refine RS.on (dj := 81) rfl (congrArg Value.bool (by rw [(beq_eq_false_iff_ne.2 hsp1)] <;> rfl)) ?_
    refine RS.q rfl (QO.fieldAddr fo61_6 (by rfl)) ?_
    refine RS.on (dj := 81) rfl (congrArg Value.bool (by rw [(beq_eq_false_iff_ne.2 hsp1)] <;> rfl)) ?_
    refine RS.q rfl (QO.load ty59 (by rfl) (by repeat (first | exact List.Mem.head _ | refine List.Mem.tail _ ?_)) (by rfl)) ?_
    refine RS.on (dj := 81) rfl (congrArg Value.bool (by rw [(beq_eq_false_iff_ne.2 hsp1)] <;> rfl)) ?_
    refine RS.q rfl (QO.lenS Try.underlying59 (by rfl)) ?_
    refine RS.on (dj := 81) rfl (congrArg Value.bool (by rw [(beq_eq_false_iff_ne.2 hsp1)] <;> rfl)) ?_
    refine RS.q rfl (QO.gtr (by rfl) (by rfl)) ?_
    refine RS.on (dj := 78) rfl (congrArg Value.bool rfl) ?_
    refine RS.q rfl (QO.pickT (by rfl) (by rw [(beq_eq_false_iff_ne.2 hsp1)] <;> rfl) (by rfl)) ?_
    refine RS.q rfl (QO.pickF (by rfl) rfl (by rfl)) ?_
    refine RS.q rfl (QO.assign) ?_
    refine RS.nil ?_
    refine thenC_n ?_
    refine CS.cond (by rfl) (fun hb61 => ?_) (fun hb61 => ?_)
    · have hb61p := of_decide_eq_true hb61
      refine CS.seq ?_
      refine CS.region ?_
      refine RS.q rfl (QO.assign) ?_
      refine RS.nil ?_
      refine thenC_n ?_
      refine CS.ret ?_
      refine blockC_r ?_
      refine thenC_r ?_
      refine retQ.mk (H' := []) (.inr rfl) (RVs.tmp (by rfl) RVs.nil) (List.nil_sublist _) ?_
      exact ⟨congrArg iv (winE_4 (by omega) (by unfold numW; assumption) (outW_f (by assumption) (by assumption) (by assumption) (by assumption) (by assumption)) (by unfold badP; omega)), rfl⟩
    have hb61p := of_decide_eq_false hb61
    refine CS.seq ?_
    refine CS.region ?_
    refine RS.q rfl (QO.fieldAddr fo61_6 (by rfl)) ?_
    refine RS.q rfl (QO.load ty59 (by rfl) (by repeat (first | exact List.Mem.head _ | refine List.Mem.tail _ ?_)) (by rfl)) ?_
    refine RS.call rfl (by rfl) ok123 (by rfl) (fun w ho => containsP A c u.pts _ (hA.own ho) hm) ?_
    rintro _ _ ⟨rfl, rfl⟩
    refine RS.q rfl (QO.assign) ?_
    refine RS.nil ?_
    refine thenC_n ?_
    refine CS.cond (by rfl) (fun hb62 => ?_) (fun hb62 => ?_)
    · refine CS.seq ?_
      refine CS.region ?_
      refine RS.q rfl (QO.assign) ?_
      refine RS.nil ?_
      refine thenC_n ?_
      refine CS.ret ?_
      refine blockC_r ?_
      refine thenC_r ?_
      refine retQ.mk (H' := []) (.inr rfl) (RVs.tmp (by rfl) RVs.nil) (List.nil_sublist _) ?_
      exact ⟨congrArg iv (winE_5 (by omega) (by unfold numW; assumption) (outW_f (by assumption) (by assumption) (by assumption) (by assumption) (by assumption)) (by unfold badP; omega) (by assumption)), rfl⟩
    refine CS.seq ?_
    refine CS.seq ?_
    refine CS.region ?_
    refine RS.q rfl (QO.move) ?_
    refine RS.q rfl (QO.move) ?_
    refine RS.off (dj := 94) rfl (.inl (congrArg Value.bool (beq_eq_false_iff_ne.2 hsp1))) (fun _ => rfl) rfl ?_
    refine RS.off (dj := 94) rfl (.inl (congrArg Value.bool (beq_eq_false_iff_ne.2 hsp1))) (fun _ => rfl) rfl ?_
    refine RS.off (dj := 94) rfl (.inl (congrArg Value.bool (beq_eq_false_iff_ne.2 hsp1))) (fun _ => rfl) rfl ?_
    refine RS.off (dj := 94) rfl (.inl (congrArg Value.bool (beq_eq_false_iff_ne.2 hsp1))) (fun _ => rfl) rfl ?_
    refine RS.off (dj := 98) (c := true) rfl (.inr rfl) (fun h => by cases h) rfl ?_
    refine RS.off (dj := 98) (c := true) rfl (.inr rfl) (fun h => by cases h) rfl ?_
    refine RS.off (dj := 98) (c := true) rfl (.inr rfl) (fun h => by cases h) rfl ?_
    refine RS.off (dj := 94) rfl (.inl (congrArg Value.bool (beq_eq_false_iff_ne.2 hsp1))) (fun _ => rfl) rfl ?_
    refine RS.off (dj := 94) rfl (.inl (congrArg Value.bool (beq_eq_false_iff_ne.2 hsp1))) (fun _ => rfl) rfl ?_
    refine RS.off (dj := 103) (c := true) rfl (.inr rfl) (fun h => by cases h) rfl ?_
    refine RS.off (dj := 103) (c := true) rfl (.inr rfl) (fun h => by cases h) rfl ?_
    refine RS.off (dj := 103) (c := true) rfl (.inr rfl) (fun h => by cases h) rfl ?_
    refine RS.off (dj := 94) rfl (.inl (congrArg Value.bool (beq_eq_false_iff_ne.2 hsp1))) (fun _ => rfl) rfl ?_
    refine RS.off (dj := 94) rfl (.inl (congrArg Value.bool (beq_eq_false_iff_ne.2 hsp1))) (fun _ => rfl) rfl ?_
    refine RS.off (dj := 108) (c := true) rfl (.inr rfl) (fun h => by cases h) rfl ?_
    refine RS.off (dj := 108) (c := true) rfl (.inr rfl) (fun h => by cases h) rfl ?_
    refine RS.off (dj := 108) (c := true) rfl (.inr rfl) (fun h => by cases h) rfl ?_
    refine RS.off (dj := 94) rfl (.inl (congrArg Value.bool (beq_eq_false_iff_ne.2 hsp1))) (fun _ => rfl) rfl ?_
    refine RS.off (dj := 94) rfl (.inl (congrArg Value.bool (beq_eq_false_iff_ne.2 hsp1))) (fun _ => rfl) rfl ?_
    refine RS.off (dj := 113) (c := true) rfl (.inr rfl) (fun h => by cases h) rfl ?_
    refine RS.off (dj := 113) (c := true) rfl (.inr rfl) (fun h => by cases h) rfl ?_
    refine RS.off (dj := 113) (c := true) rfl (.inr rfl) (fun h => by cases h) rfl ?_
    refine RS.off (dj := 94) rfl (.inl (congrArg Value.bool (beq_eq_false_iff_ne.2 hsp1))) (fun _ => rfl) rfl ?_
    refine RS.q rfl (QO.pickF (by rfl) (beq_eq_false_iff_ne.2 hsp1) (by rfl)) ?_
    refine RS.q rfl (QO.assign) ?_
    refine RS.nil ?_
    refine thenC_n ?_
    refine CS.condF (by rfl) rfl ?_
    refine CS.region ?_
    refine RS.q rfl (QO.fieldAddr fo61_0 (by rfl)) ?_
    refine RS.q rfl (QO.load ty3 (by rfl) (by repeat (first | exact List.Mem.head _ | refine List.Mem.tail _ ?_)) (by rfl)) ?_
    refine RS.q rfl (QO.eql (by rfl) (by rfl)) ?_
    refine RS.q rfl (QO.move) ?_
    refine RS.split (dj := 122) (by rfl) (fun hb63 => ?_) (fun hb63 => ?_)
    · have hb63p := eq_of_beq hb63
      refine RS.on (dj := 122) rfl (congrArg Value.bool hb63) ?_
      refine RS.q rfl (QO.fieldAddr fo61_3 (by rfl)) ?_
      refine RS.on (dj := 122) rfl (congrArg Value.bool hb63) ?_
      refine RS.q rfl (QO.load ty29 (by rfl) (by repeat (first | exact List.Mem.head _ | refine List.Mem.tail _ ?_)) (by rfl)) ?_
      refine RS.on (dj := 122) rfl (congrArg Value.bool hb63) ?_
      refine RS.q rfl (QO.fcmp32 (by rfl) (by rfl) (by simp)) ?_
      refine RS.on (dj := 122) rfl (congrArg Value.bool hb63) ?_
      refine RS.q rfl (QO.move) ?_
      refine RS.split (dj := 126) (by rfl) (fun hb64 => ?_) (fun hb64 => ?_)
      · refine RS.off (dj := 126) rfl (.inl (congrArg Value.bool hb64)) (fun _ => rfl) rfl ?_
        refine RS.off (dj := 126) rfl (.inl (congrArg Value.bool hb64)) (fun _ => rfl) rfl ?_
        refine RS.off (dj := 126) rfl (.inl (congrArg Value.bool hb64)) (fun _ => rfl) rfl ?_
        refine RS.on (dj := 122) rfl (congrArg Value.bool hb63) ?_
        refine RS.q rfl (QO.pickT (by rfl) hb64 (by rfl)) ?_
        refine RS.q rfl (QO.pickT (by rfl) hb63 (by rfl)) ?_
        refine RS.q rfl (QO.assign) ?_
        refine RS.nil ?_
        refine thenC_n ?_
        refine CS.condT (by rfl) rfl ?_
        refine CS.seq ?_
        refine CS.region ?_
        refine RS.q rfl (QO.assign) ?_
        refine RS.nil ?_
        refine thenC_n ?_
        refine CS.ret ?_
        refine blockC_r ?_
        refine thenC_r ?_
        refine retQ.mk (H' := []) (.inr rfl) (RVs.tmp (by rfl) RVs.nil) (List.nil_sublist _) ?_
        exact ⟨congrArg iv (winE_6 (by omega) (by unfold numW; assumption) (outW_f (by assumption) (by assumption) (by assumption) (by assumption) (by assumption)) (by unfold badP; omega) (by assumption) (cnf_6 (by assumption) (by assumption))), rfl⟩
      refine RS.on (dj := 126) rfl (congrArg Value.bool hb64) ?_
      refine RS.q rfl (QO.fieldAddr fo61_4 (by rfl)) ?_
      refine RS.on (dj := 126) rfl (congrArg Value.bool hb64) ?_
      refine RS.q rfl (QO.load ty29 (by rfl) (by repeat (first | exact List.Mem.head _ | refine List.Mem.tail _ ?_)) (by rfl)) ?_
      refine RS.on (dj := 126) rfl (congrArg Value.bool hb64) ?_
      refine RS.q rfl (QO.fcmp32 (by rfl) (by rfl) (by simp)) ?_
      refine RS.on (dj := 122) rfl (congrArg Value.bool hb63) ?_
      refine RS.q rfl (QO.pickF (by rfl) hb64 (by rfl)) ?_
      refine RS.q rfl (QO.pickT (by rfl) hb63 (by rfl)) ?_
      refine RS.q rfl (QO.assign) ?_
      refine RS.nil ?_
      refine thenC_n ?_
      refine CS.cond (by rfl) (fun hb65 => ?_) (fun hb65 => ?_)
      · refine CS.seq ?_
        refine CS.region ?_
        refine RS.q rfl (QO.assign) ?_
        refine RS.nil ?_
        refine thenC_n ?_
        refine CS.ret ?_
        refine blockC_r ?_
        refine thenC_r ?_
        refine retQ.mk (H' := []) (.inr rfl) (RVs.tmp (by rfl) RVs.nil) (List.nil_sublist _) ?_
        exact ⟨congrArg iv (winE_6 (by omega) (by unfold numW; assumption) (outW_f (by assumption) (by assumption) (by assumption) (by assumption) (by assumption)) (by unfold badP; omega) (by assumption) (cnf_7 (by assumption) (by assumption))), rfl⟩
      refine CS.skip ?_
      refine blockC_n ?_
      refine thenC_n ?_
      refine CS.seq ?_
      refine CS.region ?_
      refine RS.q rfl (QO.assign) ?_
      refine RS.nil ?_
      refine thenC_n ?_
      refine CS.ret ?_
      refine retQ.mk (H' := []) (.inr rfl) (RVs.tmp (by rfl) RVs.nil) (List.nil_sublist _) ?_
      exact ⟨congrArg iv (winE_0 (by omega) (by unfold numW; assumption) (outW_f (by assumption) (by assumption) (by assumption) (by assumption) (by assumption)) (by unfold badP; omega) (by assumption) (cnf_b (by omega) (by assumption) (by assumption))), rfl⟩
    have hb63p := ne_of_beq_false hb63
    refine RS.off (dj := 122) rfl (.inl (congrArg Value.bool hb63)) (fun _ => rfl) rfl ?_
    refine RS.off (dj := 122) rfl (.inl (congrArg Value.bool hb63)) (fun _ => rfl) rfl ?_
    refine RS.off (dj := 122) rfl (.inl (congrArg Value.bool hb63)) (fun _ => rfl) rfl ?_
    refine RS.off (dj := 122) rfl (.inl (congrArg Value.bool hb63)) (fun _ => rfl) rfl ?_
    refine RS.off (dj := 126) (c := true) rfl (.inr rfl) (fun h => by cases h) rfl ?_
    refine RS.off (dj := 126) (c := true) rfl (.inr rfl) (fun h => by cases h) rfl ?_
    refine RS.off (dj := 126) (c := true) rfl (.inr rfl) (fun h => by cases h) rfl ?_
    refine RS.off (dj := 122) rfl (.inl (congrArg Value.bool hb63)) (fun _ => rfl) rfl ?_
    refine RS.q rfl (QO.pickF (by rfl) hb63 (by rfl)) ?_
    refine RS.q rfl (QO.assign) ?_
    refine RS.nil ?_
    refine thenC_n ?_
    refine CS.condF (by rfl) rfl ?_
    refine CS.skip ?_
    refine blockC_n ?_
    refine thenC_n ?_
    refine CS.seq ?_
    refine CS.region ?_
    refine RS.q rfl (QO.assign) ?_
    refine RS.nil ?_
    refine thenC_n ?_
    refine CS.ret ?_
    refine retQ.mk (H' := []) (.inr rfl) (RVs.tmp (by rfl) RVs.nil) (List.nil_sublist _) ?_
    exact ⟨congrArg iv (winE_0 (by omega) (by unfold numW; assumption) (outW_f (by assumption) (by assumption) (by assumption) (by assumption) (by assumption)) (by unfold badP; omega) (by assumption) (cnf_c (by omega) (by omega))), rfl⟩
  have hb53p := of_bne_false hb53
  refine RS.off (dj := 12) rfl (.inl (congrArg Value.bool hb53)) (fun _ => rfl) rfl ?_
  refine RS.off (dj := 12) rfl (.inl (congrArg Value.bool hb53)) (fun _ => rfl) rfl ?_
  refine RS.off (dj := 12) rfl (.inl (congrArg Value.bool hb53)) (fun _ => rfl) rfl ?_
  refine RS.q rfl (QO.pickF (by rfl) hb53 (by rfl)) ?_
  refine RS.q rfl (QO.move) ?_
  refine RS.off (dj := 17) rfl (.inl (congrArg Value.bool rfl)) (fun _ => rfl) rfl ?_
  refine RS.off (dj := 17) rfl (.inl (congrArg Value.bool rfl)) (fun _ => rfl) rfl ?_
  refine RS.q rfl (QO.pickF (by rfl) rfl (by rfl)) ?_
  refine RS.q rfl (QO.assign) ?_
  refine RS.nil ?_
  refine thenC_n ?_
  refine CS.condF (by rfl) rfl ?_
  refine CS.seq ?_
  refine CS.region ?_
  refine RS.q rfl (QO.fieldAddr fo61_1 (by rfl)) ?_
  refine RS.q rfl (QO.load ty29 (by rfl) (by repeat (first | exact List.Mem.head _ | refine List.Mem.tail _ ?_)) (by rfl)) ?_
  refine RS.q rfl (QO.fieldAddr fo61_2 (by rfl)) ?_
  refine RS.q rfl (QO.load ty29 (by rfl) (by repeat (first | exact List.Mem.head _ | refine List.Mem.tail _ ?_)) (by rfl)) ?_
  refine RS.q rfl (QO.fieldAddr fo61_3 (by rfl)) ?_
  refine RS.q rfl (QO.load ty29 (by rfl) (by repeat (first | exact List.Mem.head _ | refine List.Mem.tail _ ?_)) (by rfl)) ?_
  refine RS.q rfl (QO.fieldAddr fo61_4 (by rfl)) ?_
  refine RS.q rfl (QO.load ty29 (by rfl) (by repeat (first | exact List.Mem.head _ | refine List.Mem.tail _ ?_)) (by rfl)) ?_
  refine RS.q rfl (QO.fieldAddr fo61_5 (by rfl)) ?_
  refine RS.q rfl (QO.load ty29 (by rfl) (by repeat (first | exact List.Mem.head _ | refine List.Mem.tail _ ?_)) (by rfl)) ?_
  refine RS.buildSlice rfl Try.underlying24 ty29 (by decide) (by decide) (by rfl) (by rfl) ?_
  intro g32
  refine RS.call rfl (by rfl) ok128 (by rfl) (fun w ho => allNumbers (some ⟨g32, 0, none⟩) 5 5 [u.x, u.y, u.w, u.h, u.soft] _ rfl (FS.blk' (xs := [u.x, u.y, u.w, u.h, u.soft]) ho (by repeat (first | exact List.Mem.head _ | refine List.Mem.tail _ ?_))) (by decide)) ?_
  rintro _ _ ⟨rfl, rfl⟩
  refine RS.q rfl (QO.not (by rfl)) ?_
  refine RS.q rfl (QO.assign) ?_
  refine RS.nil ?_
  refine thenC_n ?_
  refine CS.cond (by rfl) (fun hb66 => ?_) (fun hb66 => ?_)
  · have hb66p := Eq.mp (Bool.not_eq_true' _) hb66
    refine CS.seq ?_
    refine CS.region ?_
    refine RS.q rfl (QO.assign) ?_
    refine RS.nil ?_
    refine thenC_n ?_
    refine CS.ret ?_
    refine blockC_r ?_
    refine thenC_r ?_
    refine retQ.mk (H' := []) (.inr rfl) (RVs.tmp (by rfl) RVs.nil) (List.nil_sublist _) ?_
    exact ⟨congrArg iv (winE_2 (by omega) (by unfold numW; assumption)), rfl⟩
  have hb66p := Eq.mp (Bool.not_eq_false' _) hb66
  refine CS.seq ?_
  refine CS.region ?_
  refine RS.q rfl (QO.move) ?_
  refine RS.q rfl (QO.fieldAddr fo61_1 (by rfl)) ?_
  refine RS.q rfl (QO.load ty29 (by rfl) (by repeat (first | exact List.Mem.head _ | refine List.Mem.tail _ ?_)) (by rfl)) ?_
  refine RS.call rfl (by rfl) ok127 (by rfl) (fun w ho => outW1 u.x 3380609024 1233125376 _) ?_
  rintro _ _ ⟨rfl, rfl⟩
  refine RS.q rfl (QO.move) ?_
  refine RS.split (dj := 40) (by rfl) (fun hb67 => ?_) (fun hb67 => ?_)
  · refine RS.off (dj := 40) rfl (.inl (congrArg Value.bool hb67)) (fun _ => rfl) rfl ?_
    refine RS.off (dj := 40) rfl (.inl (congrArg Value.bool hb67)) (fun _ => rfl) rfl ?_
    refine RS.off (dj := 40) rfl (.inl (congrArg Value.bool hb67)) (fun _ => rfl) rfl ?_
    refine RS.off (dj := 40) rfl (.inl (congrArg Value.bool hb67)) (fun _ => rfl) rfl ?_
    refine RS.q rfl (QO.pickT (by rfl) hb67 (by rfl)) ?_
    refine RS.q rfl (QO.move) ?_
    refine RS.off (dj := 46) rfl (.inl (congrArg Value.bool rfl)) (fun _ => rfl) rfl ?_
    refine RS.off (dj := 46) rfl (.inl (congrArg Value.bool rfl)) (fun _ => rfl) rfl ?_
    refine RS.off (dj := 46) rfl (.inl (congrArg Value.bool rfl)) (fun _ => rfl) rfl ?_
    refine RS.off (dj := 46) rfl (.inl (congrArg Value.bool rfl)) (fun _ => rfl) rfl ?_
    refine RS.q rfl (QO.pickT (by rfl) rfl (by rfl)) ?_
    refine RS.q rfl (QO.move) ?_
    refine RS.off (dj := 52) rfl (.inl (congrArg Value.bool rfl)) (fun _ => rfl) rfl ?_
    refine RS.off (dj := 52) rfl (.inl (congrArg Value.bool rfl)) (fun _ => rfl) rfl ?_
    refine RS.off (dj := 52) rfl (.inl (congrArg Value.bool rfl)) (fun _ => rfl) rfl ?_
    refine RS.off (dj := 52) rfl (.inl (congrArg Value.bool rfl)) (fun _ => rfl) rfl ?_
    refine RS.q rfl (QO.pickT (by rfl) rfl (by rfl)) ?_
    refine RS.q rfl (QO.move) ?_
    refine RS.off (dj := 58) rfl (.inl (congrArg Value.bool rfl)) (fun _ => rfl) rfl ?_
    refine RS.off (dj := 58) rfl (.inl (congrArg Value.bool rfl)) (fun _ => rfl) rfl ?_
    refine RS.off (dj := 58) rfl (.inl (congrArg Value.bool rfl)) (fun _ => rfl) rfl ?_
    refine RS.off (dj := 58) rfl (.inl (congrArg Value.bool rfl)) (fun _ => rfl) rfl ?_
    refine RS.q rfl (QO.pickT (by rfl) rfl (by rfl)) ?_
    refine RS.q rfl (QO.assign) ?_
    refine RS.nil ?_
    refine thenC_n ?_
    refine CS.condT (by rfl) rfl ?_
    refine CS.seq ?_
    refine CS.region ?_
    refine RS.q rfl (QO.assign) ?_
    refine RS.nil ?_
    refine thenC_n ?_
    refine CS.ret ?_
    refine blockC_r ?_
    refine thenC_r ?_
    refine retQ.mk (H' := []) (.inr rfl) (RVs.tmp (by rfl) RVs.nil) (List.nil_sublist _) ?_
    exact ⟨congrArg iv (winE_3 (by omega) (by unfold numW; assumption) (outW_1 (by assumption))), rfl⟩
  refine RS.on (dj := 40) rfl (congrArg Value.bool hb67) ?_
  refine RS.q rfl (QO.move) ?_
  refine RS.on (dj := 40) rfl (congrArg Value.bool hb67) ?_
  refine RS.q rfl (QO.fieldAddr fo61_2 (by rfl)) ?_
  refine RS.on (dj := 40) rfl (congrArg Value.bool hb67) ?_
  refine RS.q rfl (QO.load ty29 (by rfl) (by repeat (first | exact List.Mem.head _ | refine List.Mem.tail _ ?_)) (by rfl)) ?_
  refine RS.on (dj := 40) rfl (congrArg Value.bool hb67) ?_
  refine RS.call rfl (by rfl) ok127 (by rfl) (fun w ho => outW1 u.y 3380609024 1233125376 _) ?_
  rintro _ _ ⟨rfl, rfl⟩
  refine RS.q rfl (QO.pickF (by rfl) hb67 (by rfl)) ?_
  refine RS.q rfl (QO.move) ?_
  refine RS.split (dj := 46) (by rfl) (fun hb68 => ?_) (fun hb68 => ?_)
  · refine RS.off (dj := 46) rfl (.inl (congrArg Value.bool hb68)) (fun _ => rfl) rfl ?_
    refine RS.off (dj := 46) rfl (.inl (congrArg Value.bool hb68)) (fun _ => rfl) rfl ?_
    refine RS.off (dj := 46) rfl (.inl (congrArg Value.bool hb68)) (fun _ => rfl) rfl ?_
    refine RS.off (dj := 46) rfl (.inl (congrArg Value.bool hb68)) (fun _ => rfl) rfl ?_
    refine RS.q rfl (QO.pickT (by rfl) hb68 (by rfl)) ?_
    refine RS.q rfl (QO.move) ?_
    refine RS.off (dj := 52) rfl (.inl (congrArg Value.bool rfl)) (fun _ => rfl) rfl ?_
    refine RS.off (dj := 52) rfl (.inl (congrArg Value.bool rfl)) (fun _ => rfl) rfl ?_
    refine RS.off (dj := 52) rfl (.inl (congrArg Value.bool rfl)) (fun _ => rfl) rfl ?_
    refine RS.off (dj := 52) rfl (.inl (congrArg Value.bool rfl)) (fun _ => rfl) rfl ?_
    refine RS.q rfl (QO.pickT (by rfl) rfl (by rfl)) ?_
    refine RS.q rfl (QO.move) ?_
    refine RS.off (dj := 58) rfl (.inl (congrArg Value.bool rfl)) (fun _ => rfl) rfl ?_
    refine RS.off (dj := 58) rfl (.inl (congrArg Value.bool rfl)) (fun _ => rfl) rfl ?_
    refine RS.off (dj := 58) rfl (.inl (congrArg Value.bool rfl)) (fun _ => rfl) rfl ?_
    refine RS.off (dj := 58) rfl (.inl (congrArg Value.bool rfl)) (fun _ => rfl) rfl ?_
    refine RS.q rfl (QO.pickT (by rfl) rfl (by rfl)) ?_
    refine RS.q rfl (QO.assign) ?_
    refine RS.nil ?_
    refine thenC_n ?_
    refine CS.condT (by rfl) rfl ?_
    refine CS.seq ?_
    refine CS.region ?_
    refine RS.q rfl (QO.assign) ?_
    refine RS.nil ?_
    refine thenC_n ?_
    refine CS.ret ?_
    refine blockC_r ?_
    refine thenC_r ?_
    refine retQ.mk (H' := []) (.inr rfl) (RVs.tmp (by rfl) RVs.nil) (List.nil_sublist _) ?_
    exact ⟨congrArg iv (winE_3 (by omega) (by unfold numW; assumption) (outW_2 (by assumption))), rfl⟩
  refine RS.on (dj := 46) rfl (congrArg Value.bool hb68) ?_
  refine RS.q rfl (QO.move) ?_
  refine RS.on (dj := 46) rfl (congrArg Value.bool hb68) ?_
  refine RS.q rfl (QO.fieldAddr fo61_3 (by rfl)) ?_
  refine RS.on (dj := 46) rfl (congrArg Value.bool hb68) ?_
  refine RS.q rfl (QO.load ty29 (by rfl) (by repeat (first | exact List.Mem.head _ | refine List.Mem.tail _ ?_)) (by rfl)) ?_
  refine RS.on (dj := 46) rfl (congrArg Value.bool hb68) ?_
  refine RS.call rfl (by rfl) ok127 (by rfl) (fun w ho => outW1 u.w 0 1233125376 _) ?_
  rintro _ _ ⟨rfl, rfl⟩
  refine RS.q rfl (QO.pickF (by rfl) hb68 (by rfl)) ?_
  refine RS.q rfl (QO.move) ?_
  refine RS.split (dj := 52) (by rfl) (fun hb69 => ?_) (fun hb69 => ?_)
  · refine RS.off (dj := 52) rfl (.inl (congrArg Value.bool hb69)) (fun _ => rfl) rfl ?_
    refine RS.off (dj := 52) rfl (.inl (congrArg Value.bool hb69)) (fun _ => rfl) rfl ?_
    refine RS.off (dj := 52) rfl (.inl (congrArg Value.bool hb69)) (fun _ => rfl) rfl ?_
    refine RS.off (dj := 52) rfl (.inl (congrArg Value.bool hb69)) (fun _ => rfl) rfl ?_
    refine RS.q rfl (QO.pickT (by rfl) hb69 (by rfl)) ?_
    refine RS.q rfl (QO.move) ?_
    refine RS.off (dj := 58) rfl (.inl (congrArg Value.bool rfl)) (fun _ => rfl) rfl ?_
    refine RS.off (dj := 58) rfl (.inl (congrArg Value.bool rfl)) (fun _ => rfl) rfl ?_
    refine RS.off (dj := 58) rfl (.inl (congrArg Value.bool rfl)) (fun _ => rfl) rfl ?_
    refine RS.off (dj := 58) rfl (.inl (congrArg Value.bool rfl)) (fun _ => rfl) rfl ?_
    refine RS.q rfl (QO.pickT (by rfl) rfl (by rfl)) ?_
    refine RS.q rfl (QO.assign) ?_
    refine RS.nil ?_
    refine thenC_n ?_
    refine CS.condT (by rfl) rfl ?_
    refine CS.seq ?_
    refine CS.region ?_
    refine RS.q rfl (QO.assign) ?_
    refine RS.nil ?_
    refine thenC_n ?_
    refine CS.ret ?_
    refine blockC_r ?_
    refine thenC_r ?_
    refine retQ.mk (H' := []) (.inr rfl) (RVs.tmp (by rfl) RVs.nil) (List.nil_sublist _) ?_
    exact ⟨congrArg iv (winE_3 (by omega) (by unfold numW; assumption) (outW_3 (by assumption))), rfl⟩
  refine RS.on (dj := 52) rfl (congrArg Value.bool hb69) ?_
  refine RS.q rfl (QO.move) ?_
  refine RS.on (dj := 52) rfl (congrArg Value.bool hb69) ?_
  refine RS.q rfl (QO.fieldAddr fo61_4 (by rfl)) ?_
  refine RS.on (dj := 52) rfl (congrArg Value.bool hb69) ?_
  refine RS.q rfl (QO.load ty29 (by rfl) (by repeat (first | exact List.Mem.head _ | refine List.Mem.tail _ ?_)) (by rfl)) ?_
  refine RS.on (dj := 52) rfl (congrArg Value.bool hb69) ?_
  refine RS.call rfl (by rfl) ok127 (by rfl) (fun w ho => outW1 u.h 0 1233125376 _) ?_
  rintro _ _ ⟨rfl, rfl⟩
  refine RS.q rfl (QO.pickF (by rfl) hb69 (by rfl)) ?_
  refine RS.q rfl (QO.move) ?_
  refine RS.split (dj := 58) (by rfl) (fun hb70 => ?_) (fun hb70 => ?_)
  · refine RS.off (dj := 58) rfl (.inl (congrArg Value.bool hb70)) (fun _ => rfl) rfl ?_
    refine RS.off (dj := 58) rfl (.inl (congrArg Value.bool hb70)) (fun _ => rfl) rfl ?_
    refine RS.off (dj := 58) rfl (.inl (congrArg Value.bool hb70)) (fun _ => rfl) rfl ?_
    refine RS.off (dj := 58) rfl (.inl (congrArg Value.bool hb70)) (fun _ => rfl) rfl ?_
    refine RS.q rfl (QO.pickT (by rfl) hb70 (by rfl)) ?_
    refine RS.q rfl (QO.assign) ?_
    refine RS.nil ?_
    refine thenC_n ?_
    refine CS.condT (by rfl) rfl ?_
    refine CS.seq ?_
    refine CS.region ?_
    refine RS.q rfl (QO.assign) ?_
    refine RS.nil ?_
    refine thenC_n ?_
    refine CS.ret ?_
    refine blockC_r ?_
    refine thenC_r ?_
    refine retQ.mk (H' := []) (.inr rfl) (RVs.tmp (by rfl) RVs.nil) (List.nil_sublist _) ?_
    exact ⟨congrArg iv (winE_3 (by omega) (by unfold numW; assumption) (outW_4 (by assumption))), rfl⟩
  refine RS.on (dj := 58) rfl (congrArg Value.bool hb70) ?_
  refine RS.q rfl (QO.move) ?_
  refine RS.on (dj := 58) rfl (congrArg Value.bool hb70) ?_
  refine RS.q rfl (QO.fieldAddr fo61_5 (by rfl)) ?_
  refine RS.on (dj := 58) rfl (congrArg Value.bool hb70) ?_
  refine RS.q rfl (QO.load ty29 (by rfl) (by repeat (first | exact List.Mem.head _ | refine List.Mem.tail _ ?_)) (by rfl)) ?_
  refine RS.on (dj := 58) rfl (congrArg Value.bool hb70) ?_
  refine RS.call rfl (by rfl) ok127 (by rfl) (fun w ho => outW1 u.soft 0 1166016512 _) ?_
  rintro _ _ ⟨rfl, rfl⟩
  refine RS.q rfl (QO.pickF (by rfl) hb70 (by rfl)) ?_
  refine RS.q rfl (QO.assign) ?_
  refine RS.nil ?_
  refine thenC_n ?_
  refine CS.cond (by rfl) (fun hb71 => ?_) (fun hb71 => ?_)
  · refine CS.seq ?_
    refine CS.region ?_
    refine RS.q rfl (QO.assign) ?_
    refine RS.nil ?_
    refine thenC_n ?_
    refine CS.ret ?_
    refine blockC_r ?_
    refine thenC_r ?_
    refine retQ.mk (H' := []) (.inr rfl) (RVs.tmp (by rfl) RVs.nil) (List.nil_sublist _) ?_
    exact ⟨congrArg iv (winE_3 (by omega) (by unfold numW; assumption) (outW_5 (by assumption))), rfl⟩
  refine CS.seq ?_
  refine CS.region ?_
  refine RS.q rfl (QO.move) ?_
  refine RS.q rfl (QO.move) ?_
  refine RS.off (dj := 66) rfl (.inl (congrArg Value.bool (beq_eq_false_iff_ne.2 hsp1))) (fun _ => rfl) rfl ?_
  refine RS.off (dj := 66) rfl (.inl (congrArg Value.bool (beq_eq_false_iff_ne.2 hsp1))) (fun _ => rfl) rfl ?_
  refine RS.off (dj := 66) rfl (.inl (congrArg Value.bool (beq_eq_false_iff_ne.2 hsp1))) (fun _ => rfl) rfl ?_
  refine RS.off (dj := 66) rfl (.inl (congrArg Value.bool (beq_eq_false_iff_ne.2 hsp1))) (fun _ => rfl) rfl ?_
  refine RS.off (dj := 66) rfl (.inl (congrArg Value.bool (beq_eq_false_iff_ne.2 hsp1))) (fun _ => rfl) rfl ?_
  refine RS.off (dj := 71) (c := true) rfl (.inr rfl) (fun h => by cases h) rfl ?_
  refine RS.off (dj := 71) (c := true) rfl (.inr rfl) (fun h => by cases h) rfl ?_
  refine RS.off (dj := 71) (c := true) rfl (.inr rfl) (fun h => by cases h) rfl ?_
  refine RS.off (dj := 71) (c := true) rfl (.inr rfl) (fun h => by cases h) rfl ?_
  refine RS.off (dj := 66) rfl (.inl (congrArg Value.bool (beq_eq_false_iff_ne.2 hsp1))) (fun _ => rfl) rfl ?_
  refine RS.q rfl (QO.pickF (by rfl) (beq_eq_false_iff_ne.2 hsp1) (by rfl)) ?_
  refine RS.q rfl (QO.move) ?_
  refine RS.on (dj := 78) rfl (congrArg Value.bool rfl) ?_
  refine RS.q rfl (QO.move) ?_
  refine RS.on (dj := 78) rfl (congrArg Value.bool rfl) ?_
  refine RS.q rfl (QO.not (by rfl)) ?_
  refine RS.on (dj := 78) rfl (congrArg Value.bool rfl) ?_
  refine RS.q rfl (QO.move) ?_
  refine RS.on (dj := 81) rfl (congrArg Value.bool (by rw [(beq_eq_false_iff_ne.2 hsp1)] <;> rfl)) ?_
  refine RS.q rfl (QO.fieldAddr fo61_6 (by rfl)) ?_
  refine RS.on (dj := 81) rfl (congrArg Value.bool (by rw [(beq_eq_false_iff_ne.2 hsp1)] <;> rfl)) ?_
  refine RS.q rfl (QO.load ty59 (by rfl) (by repeat (first | exact List.Mem.head _ | refine List.Mem.tail _ ?_)) (by rfl)) ?_
  refine RS.on (dj := 81) rfl (congrArg Value.bool (by rw [(beq_eq_false_iff_ne.2 hsp1)] <;> rfl)) ?_
  refine RS.q rfl (QO.lenS Try.underlying59 (by rfl)) ?_
  refine RS.on (dj := 81) rfl (congrArg Value.bool (by rw [(beq_eq_false_iff_ne.2 hsp1)] <;> rfl)) ?_
  refine RS.q rfl (QO.gtr (by rfl) (by rfl)) ?_
  refine RS.on (dj := 78) rfl (congrArg Value.bool rfl) ?_
  refine RS.q rfl (QO.pickT (by rfl) (by rw [(beq_eq_false_iff_ne.2 hsp1)] <;> rfl) (by rfl)) ?_
  refine RS.q rfl (QO.pickF (by rfl) rfl (by rfl)) ?_
  refine RS.q rfl (QO.assign) ?_
  refine RS.nil ?_
  refine thenC_n ?_
  refine CS.cond (by rfl) (fun hb72 => ?_) (fun hb72 => ?_)
  · have hb72p := of_decide_eq_true hb72
    refine CS.seq ?_
    refine CS.region ?_
    refine RS.q rfl (QO.assign) ?_
    refine RS.nil ?_
    refine thenC_n ?_
    refine CS.ret ?_
    refine blockC_r ?_
    refine thenC_r ?_
    refine retQ.mk (H' := []) (.inr rfl) (RVs.tmp (by rfl) RVs.nil) (List.nil_sublist _) ?_
    exact ⟨congrArg iv (winE_4 (by omega) (by unfold numW; assumption) (outW_f (by assumption) (by assumption) (by assumption) (by assumption) (by assumption)) (by unfold badP; omega)), rfl⟩
  have hb72p := of_decide_eq_false hb72
  refine CS.seq ?_
  refine CS.region ?_
  refine RS.q rfl (QO.fieldAddr fo61_6 (by rfl)) ?_
  refine RS.q rfl (QO.load ty59 (by rfl) (by repeat (first | exact List.Mem.head _ | refine List.Mem.tail _ ?_)) (by rfl)) ?_
  refine RS.call rfl (by rfl) ok123 (by rfl) (fun w ho => containsP A c u.pts _ (hA.own ho) hm) ?_
  rintro _ _ ⟨rfl, rfl⟩
  refine RS.q rfl (QO.assign) ?_
  refine RS.nil ?_
  refine thenC_n ?_
  refine CS.cond (by rfl) (fun hb73 => ?_) (fun hb73 => ?_)
  · refine CS.seq ?_
    refine CS.region ?_
    refine RS.q rfl (QO.assign) ?_
    refine RS.nil ?_
    refine thenC_n ?_
    refine CS.ret ?_
    refine blockC_r ?_
    refine thenC_r ?_
    refine retQ.mk (H' := []) (.inr rfl) (RVs.tmp (by rfl) RVs.nil) (List.nil_sublist _) ?_
    exact ⟨congrArg iv (winE_5 (by omega) (by unfold numW; assumption) (outW_f (by assumption) (by assumption) (by assumption) (by assumption) (by assumption)) (by unfold badP; omega) (by assumption)), rfl⟩
  refine CS.seq ?_
  refine CS.seq ?_
  refine CS.region ?_
  refine RS.q rfl (QO.move) ?_
  refine RS.q rfl (QO.move) ?_
  refine RS.off (dj := 94) rfl (.inl (congrArg Value.bool (beq_eq_false_iff_ne.2 hsp1))) (fun _ => rfl) rfl ?_
  refine RS.off (dj := 94) rfl (.inl (congrArg Value.bool (beq_eq_false_iff_ne.2 hsp1))) (fun _ => rfl) rfl ?_
  refine RS.off (dj := 94) rfl (.inl (congrArg Value.bool (beq_eq_false_iff_ne.2 hsp1))) (fun _ => rfl) rfl ?_
  refine RS.off (dj := 94) rfl (.inl (congrArg Value.bool (beq_eq_false_iff_ne.2 hsp1))) (fun _ => rfl) rfl ?_
  refine RS.off (dj := 98) (c := true) rfl (.inr rfl) (fun h => by cases h) rfl ?_
  refine RS.off (dj := 98) (c := true) rfl (.inr rfl) (fun h => by cases h) rfl ?_
  refine RS.off (dj := 98) (c := true) rfl (.inr rfl) (fun h => by cases h) rfl ?_
  refine RS.off (dj := 94) rfl (.inl (congrArg Value.bool (beq_eq_false_iff_ne.2 hsp1))) (fun _ => rfl) rfl ?_
  refine RS.off (dj := 94) rfl (.inl (congrArg Value.bool (beq_eq_false_iff_ne.2 hsp1))) (fun _ => rfl) rfl ?_
  refine RS.off (dj := 103) (c := true) rfl (.inr rfl) (fun h => by cases h) rfl ?_
  refine RS.off (dj := 103) (c := true) rfl (.inr rfl) (fun h => by cases h) rfl ?_
  refine RS.off (dj := 103) (c := true) rfl (.inr rfl) (fun h => by cases h) rfl ?_
  refine RS.off (dj := 94) rfl (.inl (congrArg Value.bool (beq_eq_false_iff_ne.2 hsp1))) (fun _ => rfl) rfl ?_
  refine RS.off (dj := 94) rfl (.inl (congrArg Value.bool (beq_eq_false_iff_ne.2 hsp1))) (fun _ => rfl) rfl ?_
  refine RS.off (dj := 108) (c := true) rfl (.inr rfl) (fun h => by cases h) rfl ?_
  refine RS.off (dj := 108) (c := true) rfl (.inr rfl) (fun h => by cases h) rfl ?_
  refine RS.off (dj := 108) (c := true) rfl (.inr rfl) (fun h => by cases h) rfl ?_
  refine RS.off (dj := 94) rfl (.inl (congrArg Value.bool (beq_eq_false_iff_ne.2 hsp1))) (fun _ => rfl) rfl ?_
  refine RS.off (dj := 94) rfl (.inl (congrArg Value.bool (beq_eq_false_iff_ne.2 hsp1))) (fun _ => rfl) rfl ?_
  refine RS.off (dj := 113) (c := true) rfl (.inr rfl) (fun h => by cases h) rfl ?_
  refine RS.off (dj := 113) (c := true) rfl (.inr rfl) (fun h => by cases h) rfl ?_
  refine RS.off (dj := 113) (c := true) rfl (.inr rfl) (fun h => by cases h) rfl ?_
  refine RS.off (dj := 94) rfl (.inl (congrArg Value.bool (beq_eq_false_iff_ne.2 hsp1))) (fun _ => rfl) rfl ?_
  refine RS.q rfl (QO.pickF (by rfl) (beq_eq_false_iff_ne.2 hsp1) (by rfl)) ?_
  refine RS.q rfl (QO.assign) ?_
  refine RS.nil ?_
  refine thenC_n ?_
  refine CS.condF (by rfl) rfl ?_
  refine CS.region ?_
  refine RS.q rfl (QO.fieldAddr fo61_0 (by rfl)) ?_
  refine RS.q rfl (QO.load ty3 (by rfl) (by repeat (first | exact List.Mem.head _ | refine List.Mem.tail _ ?_)) (by rfl)) ?_
  refine RS.q rfl (QO.eql (by rfl) (by rfl)) ?_
  refine RS.q rfl (QO.move) ?_
  refine RS.split (dj := 122) (by rfl) (fun hb74 => ?_) (fun hb74 => ?_)
  · have hb74p := eq_of_beq hb74
    refine RS.on (dj := 122) rfl (congrArg Value.bool hb74) ?_
    refine RS.q rfl (QO.fieldAddr fo61_3 (by rfl)) ?_
    refine RS.on (dj := 122) rfl (congrArg Value.bool hb74) ?_
    refine RS.q rfl (QO.load ty29 (by rfl) (by repeat (first | exact List.Mem.head _ | refine List.Mem.tail _ ?_)) (by rfl)) ?_
    refine RS.on (dj := 122) rfl (congrArg Value.bool hb74) ?_
    refine RS.q rfl (QO.fcmp32 (by rfl) (by rfl) (by simp)) ?_
    refine RS.on (dj := 122) rfl (congrArg Value.bool hb74) ?_
    refine RS.q rfl (QO.move) ?_
    refine RS.split (dj := 126) (by rfl) (fun hb75 => ?_) (fun hb75 => ?_)
    · refine RS.off (dj := 126) rfl (.inl (congrArg Value.bool hb75)) (fun _ => rfl) rfl ?_
      refine RS.off (dj := 126) rfl (.inl (congrArg Value.bool hb75)) (fun _ => rfl) rfl ?_
      refine RS.off (dj := 126) rfl (.inl (congrArg Value.bool hb75)) (fun _ => rfl) rfl ?_
      refine RS.on (dj := 122) rfl (congrArg Value.bool hb74) ?_
      refine RS.q rfl (QO.pickT (by rfl) hb75 (by rfl)) ?_
      refine RS.q rfl (QO.pickT (by rfl) hb74 (by rfl)) ?_
      refine RS.q rfl (QO.assign) ?_
      refine RS.nil ?_
      refine thenC_n ?_
      refine CS.condT (by rfl) rfl ?_
      refine CS.seq ?_
      refine CS.region ?_
      refine RS.q rfl (QO.assign) ?_
      refine RS.nil ?_
      refine thenC_n ?_
      refine CS.ret ?_
      refine blockC_r ?_
      refine thenC_r ?_
      refine retQ.mk (H' := []) (.inr rfl) (RVs.tmp (by rfl) RVs.nil) (List.nil_sublist _) ?_
      exact ⟨congrArg iv (winE_6 (by omega) (by unfold numW; assumption) (outW_f (by assumption) (by assumption) (by assumption) (by assumption) (by assumption)) (by unfold badP; omega) (by assumption) (cnf_6 (by assumption) (by assumption))), rfl⟩
    refine RS.on (dj := 126) rfl (congrArg Value.bool hb75) ?_
    refine RS.q rfl (QO.fieldAddr fo61_4 (by rfl)) ?_
    refine RS.on (dj := 126) rfl (congrArg Value.bool hb75) ?_
    refine RS.q rfl (QO.load ty29 (by rfl) (by repeat (first | exact List.Mem.head _ | refine List.Mem.tail _ ?_)) (by rfl)) ?_
    refine RS.on (dj := 126) rfl (congrArg Value.bool hb75) ?_
    refine RS.q rfl (QO.fcmp32 (by rfl) (by rfl) (by simp)) ?_
    refine RS.on (dj := 122) rfl (congrArg Value.bool hb74) ?_
    refine RS.q rfl (QO.pickF (by rfl) hb75 (by rfl)) ?_
    refine RS.q rfl (QO.pickT (by rfl) hb74 (by rfl)) ?_
    refine RS.q rfl (QO.assign) ?_
    refine RS.nil ?_
    refine thenC_n ?_
    refine CS.cond (by rfl) (fun hb76 => ?_) (fun hb76 => ?_)
    · refine CS.seq ?_
      refine CS.region ?_
      refine RS.q rfl (QO.assign) ?_
      refine RS.nil ?_
      refine thenC_n ?_
      refine CS.ret ?_
      refine blockC_r ?_
      refine thenC_r ?_
      refine retQ.mk (H' := []) (.inr rfl) (RVs.tmp (by rfl) RVs.nil) (List.nil_sublist _) ?_
      exact ⟨congrArg iv (winE_6 (by omega) (by unfold numW; assumption) (outW_f (by assumption) (by assumption) (by assumption) (by assumption) (by assumption)) (by unfold badP; omega) (by assumption) (cnf_7 (by assumption) (by assumption))), rfl⟩
    refine CS.skip ?_
    refine blockC_n ?_
    refine thenC_n ?_
    refine CS.seq ?_
    refine CS.region ?_
    refine RS.q rfl (QO.assign) ?_
    refine RS.nil ?_
    refine thenC_n ?_
    refine CS.ret ?_
    refine retQ.mk (H' := []) (.inr rfl) (RVs.tmp (by rfl) RVs.nil) (List.nil_sublist _) ?_
    exact ⟨congrArg iv (winE_0 (by omega) (by unfold numW; assumption) (outW_f (by assumption) (by assumption) (by assumption) (by assumption) (by assumption)) (by unfold badP; omega) (by assumption) (cnf_b (by omega) (by assumption) (by assumption))), rfl⟩
  have hb74p := ne_of_beq_false hb74
  refine RS.off (dj := 122) rfl (.inl (congrArg Value.bool hb74)) (fun _ => rfl) rfl ?_
  refine RS.off (dj := 122) rfl (.inl (congrArg Value.bool hb74)) (fun _ => rfl) rfl ?_
  refine RS.off (dj := 122) rfl (.inl (congrArg Value.bool hb74)) (fun _ => rfl) rfl ?_
  refine RS.off (dj := 122) rfl (.inl (congrArg Value.bool hb74)) (fun _ => rfl) rfl ?_
  refine RS.off (dj := 126) (c := true) rfl (.inr rfl) (fun h => by cases h) rfl ?_
  refine RS.off (dj := 126) (c := true) rfl (.inr rfl) (fun h => by cases h) rfl ?_
  refine RS.off (dj := 126) (c := true) rfl (.inr rfl) (fun h => by cases h) rfl ?_
  refine RS.off (dj := 122) rfl (.inl (congrArg Value.bool hb74)) (fun _ => rfl) rfl ?_
  refine RS.q rfl (QO.pickF (by rfl) hb74 (by rfl)) ?_
  refine RS.q rfl (QO.assign) ?_
  refine RS.nil ?_
  refine thenC_n ?_
  refine CS.condF (by rfl) rfl ?_
  refine CS.skip ?_
  refine blockC_n ?_
  refine thenC_n ?_
  refine CS.seq ?_
  refine CS.region ?_
  refine RS.q rfl (QO.assign) ?_
  refine RS.nil ?_
  refine thenC_n ?_
  refine CS.ret ?_
  refine retQ.mk (H' := []) (.inr rfl) (RVs.tmp (by rfl) RVs.nil) (List.nil_sublist _) ?_
  exact ⟨congrArg iv (winE_0 (by omega) (by unfold numW; assumption) (outW_f (by assumption) (by assumption) (by assumption) (by assumption) (by assumption)) (by unfold badP; omega) (by assumption) (cnf_c (by omega) (by omega))), rfl⟩

end Go.Proofs.Ytapcgokcfmklbaa

namespace Go.Proofs.Ytapcgokcfmklbaa
open Go Go.RowKit

/-- compare doubles -/
def cmpD (op : BinOp) (a b : Nat) : Bool :=
  match op with
  | .lss => Ieee.double.order a b == some .lt
  | .gtr => Ieee.double.order a b == some .gt
  | _ => false
section
variable {P : Program} {W : World} {H : HL} {e : Env} {x y : Operand} {t t' ty : TypeId}
end
def isNanD (d : Ieee.Datum) : Prop := ∃ s f, d = .nan s f
/-- a single that is no NaN, as a double -/
def wdD (v : Nat) : Nat := (floatToFloatBits .f32 v .f64).getD 0
/-- made whole, to the nearest, the even one between two -/
def rteD (d : Nat) : Nat := FloatKind.f64.encode ((FloatKind.f64.decode d).integral .even)
def loD : Nat := FloatKind.f64.nearest (-1048576)
def hiD : Nat := FloatKind.f64.nearest 1048576
theorem cut_zero (neg : Bool) (n k : Nat) : Ieee.Toward.zero.cut neg n k = n / 2 ^ k := by
  unfold Ieee.Toward.cut
  simp only [Bool.toNat_false, Nat.add_zero, Nat.shiftLeft_eq, Nat.one_mul]
  rcases Nat.le_total k (n.log2 + 2) with h | h
  · rw [Nat.min_eq_left h]
  · rw [Nat.min_eq_right h, Nat.div_eq_of_lt, Nat.div_eq_of_lt]
    · exact Nat.lt_of_lt_of_le Nat.lt_log2_self (Nat.pow_le_pow_right (by omega) (by omega))
    · exact Nat.lt_of_lt_of_le Nat.lt_log2_self (Nat.pow_le_pow_right (by omega) (by omega))
theorem signed_abs {s : Bool} {m u B : Nat} (h1 : -(B : Int) ≤ Ieee.signed s m u) (h2 : Ieee.signed s m u ≤ B) : m * 2 ^ u ≤ B := by
  have := val_abs s m u
  omega
/-- Near, between -1048576 and 1048576 -/
def nearI (v : Nat) : Int := if nan32 v then -1048576 else if cmpD .lss (rteD (wdD v)) loD then -1048576 else if cmpD .gtr (rteD (wdD v)) hiD then 1048576 else (floatToIntVal .f64 (rteD (wdD v)) .i64).getD 0
end Go.Proofs.Ytapcgokcfmklbaa
