/-
  Part 6 of what the proof leans on (Any2, G8, KMov, G9, KRow). Conditions: as each theorem says.
-/
import Derived.Test.YtapcgokcfmklbaaY5
namespace Go.Proofs.Ytapcgokcfmklbaa
open Go Go.RowKit

/-- none of X has come up -/
def noX (X : List Nat) (listed : Array Bool) : Bool := X.all fun x => !listed.getD x false
theorem noX_set {X : List Nat} {listed : Array Bool} {i : Nat} (h : noX X (listed.setIfInBounds i true) = true) : noX X listed = true := by
  unfold noX at *
  rw [List.all_eq_true] at h ⊢
  intro x hx
  have h1 := h x hx
  by_cases e : i = x
  · subst e
    rcases Nat.lt_or_ge i listed.size with hl | hl
    · simp [hl] at h1
    · simp [Array.getElem?_eq_none hl]
  · rw [getD_set_ne false e] at h1; exact h1
theorem noX_ne {X : List Nat} {listed : Array Bool} {j : Nat} (h : noX X listed = true) (hj : X.contains j = false) : noX X (listed.setIfInBounds j true) = true := by
  unfold noX at *
  rw [List.all_eq_true] at h ⊢
  intro x hx
  have h1 := h x hx
  have e : j ≠ x := fun e => by
    subst e
    have : X.contains j = true := by simpa using hx
    rw [this] at hj; cases hj
  rw [getD_set_ne false e]; exact h1
/-- Whatever order is picked from here on; behind each operation the world meets T, and S as long as none of X has come up. -/
def wpAny2 (P : Program) (ops : Array Oper) (Q : Exit → Act → World → Prop) (S T : World → Prop) (X : List Nat) : Nat → Array Bool → Act → World → Prop
  | 0, listed, a, w => Region.ready .any ops listed = [] ∧ Q .normal a w
  | fuel + 1, listed, a, w =>
    (Region.ready .any ops listed = [] → Q .normal a w) ∧
    ∀ i ∈ Region.ready .any ops listed, wpOp P ops Q i (fun a' w' => ((noX X (listed.setIfInBounds i true) = true → S w') ∧ T w') ∧ wpAny2 P ops Q S T X fuel (listed.setIfInBounds i true) a' w') a w
/-- each operation of X waits for i -/
def waitsX (ops : Array Oper) (X : List Nat) (i : Nat) : Bool := X.all fun j => match ops[j]? with
  | some o => o.after.any fun e => Region.binds .any e && e.on == i
  | none => true
section
variable {P : Program} {ops : Array Oper} {Q : Exit → Act → World → Prop} {S T : World → Prop} {X : List Nat}
theorem wpAny_of_2 : ∀ (fuel : Nat) (listed : Array Bool) (a : Act) (w : World), wpAny2 P ops Q S T X fuel listed a w → wpAny P .any ops Q fuel listed a w
  | 0, _, _, _, h => h
  | fuel + 1, _, _, _, h => ⟨h.1, fun i hi => wpOp_mono (fun _ _ h' => wpAny_of_2 fuel _ _ _ h'.2) (h.2 i hi)⟩
theorem waitsX_spec {i : Nat} (h : waitsX ops X i = true) {j : Nat} {o : Oper} (hj : ops[j]? = some o) (hx : X.contains j = true) : ∃ e ∈ o.after, Region.binds .any e = true ∧ e.on = i := by
  unfold waitsX at h
  have h1 := List.all_eq_true.1 h j (by simpa using hx)
  rw [hj] at h1
  obtain ⟨e, he, hb⟩ := Array.any_eq_true'.1 h1
  simp only [Bool.and_eq_true, beq_iff_eq] at hb
  exact ⟨e, he, hb.1, hb.2⟩
/-- What only reads may be taken first: 'V' is what its value leans on. -/
theorem wpAny2_first {i : Nat} {oi : Oper} {v : Value} {V : World → Prop} (hiX : X.contains i = false) (hi : ops[i]? = some oi) (hsel : ∀ (j : Nat) (o : Oper) cs b, ops[j]? = some o → o.op ≠ .select cs b)
    (hQ : ∀ c a w, Q (.panic c) (a.put oi.dst v) w → Q (.panic c) a w) :
    ∀ (fuel : Nat) (listed : Array Bool) (a : Act) (w : World), (V = T ∨ (V = S ∧ waitsX ops X i = true ∧ noX X listed = true)) →
      (∀ j oj, ops[j]? = some oj → j ≠ i → listed.getD j true = false → (∀ e ∈ oj.after, Region.binds .any e = true → e.on ≠ i) → oi.apart ops oj = true) →
      i ∈ Region.ready .any ops listed → YieldsIf P ops V oi v a → V w → (noX X listed = true → S w) → T w →
      wpAny2 P ops Q S T X fuel (listed.setIfInBounds i true) (a.put oi.dst v) w → wpAny2 P ops Q S T X (fuel + 1) listed a w := by
  intro fuel
  induction fuel with
  | zero =>
    intro listed a w _ _ hr hy hV hS hT H
    refine ⟨fun h => (by rw [h] at hr; cases hr), fun j hj => ?_⟩
    by_cases hji : j = i
    · subst hji; exact hy.wpOp hi hV ⟨⟨fun h => hS (noX_set h), hT⟩, H⟩
    · have := ready_mono hj hji
      rw [H.1] at this
      cases this
  | succ fuel ih =>
    intro listed a w hk hfree hr hy hV hS hT H
    refine ⟨fun h => (by rw [h] at hr; cases hr), fun j hj => ?_⟩
    by_cases hji : j = i
    · subst hji; exact hy.wpOp hi hV ⟨⟨fun h => hS (noX_set h), hT⟩, H⟩
    · have h1 := H.2 j (ready_mono hj hji)
      obtain ⟨hjun, oj, hoj, hall⟩ := mem_ready.1 hj
      have hnot : ∀ e ∈ oj.after, Region.binds .any e = true → e.on ≠ i := fun e he hb heq => by
        have h1 := hall e he hb
        have h0 := (mem_ready.1 hr).1
        rw [heq] at h1
        rcases Nat.lt_or_ge i listed.size with h' | h'
        · simp [h'] at h0 h1; rw [h0] at h1; cases h1
        · simp [Array.getElem?_eq_none h'] at h1
      have h2 := wpOp_putIf hoj (hfree j oj hoj hji hjun hnot) (fun cs b => hsel i oi cs b hi) (fun cs b => hsel j oj cs b hoj) hQ hy h1
      have hfree' : ∀ q ok, ops[q]? = some ok → q ≠ i → (listed.setIfInBounds j true).getD q true = false →
          (∀ e ∈ ok.after, Region.binds .any e = true → e.on ≠ i) → oi.apart ops ok = true := fun q ok hq hqi hun hno => by
        refine hfree q ok hq hqi ?_ hno
        by_cases hjq : j = q
        · subst hjq; exact hjun
        · rw [getD_set_ne true hjq] at hun; exact hun
      have hkj : V = T ∨ (V = S ∧ waitsX ops X i = true ∧ noX X (listed.setIfInBounds j true) = true) := by
        rcases hk with hk | ⟨hk, hw, hn⟩
        · exact .inl hk
        · refine .inr ⟨hk, hw, noX_ne hn ?_⟩
          cases hx : X.contains j with
          | false => rfl
          | true =>
            obtain ⟨e, he, hb, ho⟩ := waitsX_spec hw hoj hx
            exact absurd ho (hnot e he hb)
      have hcomm : (listed.setIfInBounds i true).setIfInBounds j true = (listed.setIfInBounds j true).setIfInBounds i true := Array.setIfInBounds_comm _ _ (Ne.symm hji)
      refine wpOp_mono (fun a' w' h3 => ?_) h2
      obtain ⟨hy', ⟨hS', hT'⟩, hW'⟩ := h3
      rw [hcomm] at hS' hW'
      have hSj : noX X (listed.setIfInBounds j true) = true → S w' := fun h => hS' (noX_ne h hiX)
      have hVj : V w' := by
        rcases hkj with hk | ⟨hk, _, hn⟩
        · rw [hk]; exact hT'
        · rw [hk]; exact hSj hn
      exact ⟨⟨hSj, hT'⟩, ih (listed.setIfInBounds j true) a' w' hkj hfree' (ready_mono hr (Ne.symm hji)) hy' hVj hSj hT' hW'⟩
end
/-! ### in the calculus -/
def RT2 (P : Program) (W : World) (n : Nat) (ops : Array Oper) (X : List Nat) (HS HT : HL) (Q : Env → HL → Prop) (fuel : Nat) (listed : Array Bool) (e : Env) (H : HL) : Prop :=
  Region.noSelect ops = true → (noX X listed = true → HS.Sublist H) → HT.Sublist H → ∀ a w, Rep n a e → Own W w H → wpAny2 P ops (PostN W n Q) (fun w => Own W w HS) (fun w => Own W w HT) X fuel listed a w
section
variable {P : Program} {W : World} {n : Nat} {ops : Array Oper} {X : List Nat} {HS HT H : HL} {Q : Env → HL → Prop} {fuel : Nat} {listed : Array Bool} {e : Env}
variable {d : Tmp} {op : Op} {ty : TypeId} {pos : String} {af : Array Edge} {v : Value} {i j : Nat}
theorem RT2.done (hr : Region.ready .any ops listed = []) (h : Q e H) : RT2 P W n ops X HS HT Q fuel listed e H := by
  intro _ _ _ a w hrep ho
  have hp : PostN W n Q .normal a w := ⟨e, H, hrep, ho, h⟩
  cases fuel with
  | zero => exact ⟨hr, hp⟩
  | succ f => exact ⟨fun _ => hp, by rw [hr]; simp⟩
def take2OK (ops : Array Oper) (X : List Nat) (listed : Array Bool) (i : Nat) : Bool := !X.contains i && Region.free .any ops listed i && (Region.ready .any ops listed).contains i
def take1OK (ops : Array Oper) (X : List Nat) (listed : Array Bool) (i : Nat) : Bool := take2OK ops X listed i && waitsX ops X i && noX X listed
/-- a reading of what stands until X -/
theorem RT2.take1 (hi : ops[i]? = some ⟨some d, op, ty, pos, af, none⟩) (hc : take1OK ops X listed i = true) (hd : Nat.blt d n = true) (hq : QO P W HS e op ty v)
    (h : RT2 P W n ops X HS HT Q fuel (listed.setIfInBounds i true) (put e d v) H) : RT2 P W n ops X HS HT Q (fuel + 1) listed e H := by
  intro hs hS hT a w hrep ho
  simp only [take1OK, take2OK, Bool.and_eq_true, Bool.not_eq_true'] at hc
  obtain ⟨⟨⟨⟨hx, hf⟩, hr⟩, hw⟩, hn⟩ := hc
  refine wpAny2_first (V := fun w => Own W w HS) (v := v) hx hi (Region.noSelect_spec hs) hQpanic fuel listed a w (.inr ⟨rfl, hw, hn⟩) (Region.free_spec hi hf) (by simpa using hr) ?_ (ho.sub (hS hn)) (fun h => ho.sub (hS h)) (ho.sub hT) (h hs (fun hh => hS (noX_set hh)) hT _ _ (hrep.put (d := some d) hd v) ho)
  refine .inl ⟨rfl, fun w' hw' => ?_⟩
  rw [hrep.eval]
  exact hq _ _ _ _ w' hw'
/-- a reading of what stands throughout -/
theorem RT2.take2 (hi : ops[i]? = some ⟨some d, op, ty, pos, af, none⟩) (hc : take2OK ops X listed i = true) (hd : Nat.blt d n = true) (hq : QO P W HT e op ty v)
    (h : RT2 P W n ops X HS HT Q fuel (listed.setIfInBounds i true) (put e d v) H) : RT2 P W n ops X HS HT Q (fuel + 1) listed e H := by
  intro hs hS hT a w hrep ho
  simp only [take2OK, Bool.and_eq_true, Bool.not_eq_true'] at hc
  obtain ⟨⟨hx, hf⟩, hr⟩ := hc
  refine wpAny2_first (V := fun w => Own W w HT) (v := v) hx hi (Region.noSelect_spec hs) hQpanic fuel listed a w (.inl rfl) (Region.free_spec hi hf) (by simpa using hr) ?_ (ho.sub hT) (fun h => ho.sub (hS h)) (ho.sub hT) (h hs (fun hh => hS (noX_set hh)) hT _ _ (hrep.put (d := some d) hd v) ho)
  refine .inl ⟨rfl, fun w' hw' => ?_⟩
  rw [hrep.eval]
  exact hq _ _ _ _ w' hw'
/-- the only one that may come up, before X -/
theorem RT2.one {o : Oper} (hr : Region.ready .any ops listed = [i]) (hi : ops[i]? = some o)
    (h : RS P W n ops (fun e' H' => HS.Sublist H' ∧ HT.Sublist H' ∧ RT2 P W n ops X HS HT Q fuel (listed.setIfInBounds i true) e' H') [o] e H) :
    RT2 P W n ops X HS HT Q (fuel + 1) listed e H := by
  intro hs hS hT a w hrep ho
  refine ⟨fun h0 => (by rw [hr] at h0; cases h0), fun q hq => ?_⟩
  rw [hr] at hq
  obtain rfl : q = i := by simpa using hq
  exact wpOp_mono (fun a' w' ⟨e', H', h1, h2, h3, h4, h5⟩ => ⟨⟨fun _ => h2.sub h3, h2.sub h4⟩, h5 hs (fun _ => h3) h4 a' w' h1 h2⟩) (wpOp_of_RS hi h hrep ho)
/-- the only one that may come up, of X or behind it -/
theorem RT2.oneX {o : Oper} (hr : Region.ready .any ops listed = [i]) (hi : ops[i]? = some o) (hx : noX X (listed.setIfInBounds i true) = false)
    (h : RS P W n ops (fun e' H' => HT.Sublist H' ∧ RT2 P W n ops X HS HT Q fuel (listed.setIfInBounds i true) e' H') [o] e H) :
    RT2 P W n ops X HS HT Q (fuel + 1) listed e H := by
  intro hs hS hT a w hrep ho
  refine ⟨fun h0 => (by rw [hr] at h0; cases h0), fun q hq => ?_⟩
  rw [hr] at hq
  obtain rfl : q = i := by simpa using hq
  exact wpOp_mono (fun a' w' ⟨e', H', h1, h2, h4, h5⟩ => ⟨⟨fun h => (by rw [hx] at h; cases h), h2.sub h4⟩, h5 hs (fun h => (by rw [hx] at h; cases h)) h4 a' w' h1 h2⟩) (wpOp_of_RS hi h hrep ho)
theorem CS.draw2 {l : List Oper} {id : Nat} {Q : Exit → Env → HL → Prop} (X : List Nat) {HT : HL} (hT : HT.Sublist H) (hm : P.follows .mixedOrders = true) (hs : Region.noSelect l.toArray = true)
    (h : RT2 P W n l.toArray X H HT (fun e H => Q .normal e H) l.length (Array.replicate l.length false) e H) : CS P W n (.region id l.toArray true) Q e H := by
  intro a w hr ho
  refine wp_mono (Q := PostN W n (fun e H => Q .normal e H)) (wp_region_any hm ?_) fun x a' w' hq => ?_
  · have := h hs (fun _ => List.Sublist.refl _) hT a w.drew hr ho.drew
    exact wpAny_of_2 _ _ _ _ this
  · cases x <;> simp only [PostN] at hq
    exact hq
end
end Go.Proofs.Ytapcgokcfmklbaa

namespace Go.Proofs.Ytapcgokcfmklbaa
open Go Go.Proofs Go.RowKit

theorem pl61 : places Try.prog 61 = some #[(0, 1), (1, 1), (2, 1), (3, 1), (4, 1), (5, 1), (6, 1), (7, 1)] := by kernel_rfl
theorem ok25 : callOK Try.prog 25 = true := by kernel_rfl
theorem ok70 : callOK Try.prog 70 = true := by kernel_rfl
theorem ok71 : callOK Try.prog 71 = true := by kernel_rfl
theorem ok73 : callOK Try.prog 73 = true := by kernel_rfl

set_option maxRecDepth 100000 in
theorem betweenBad (A : Option Addr) (c : Nat) (l : List KF) (frame : Int) (W : World) (hA : KS W A l) (hm : l.length ≤ maxLen) (he : frE l ≠ 0) : Fn_ Try.prog 24 #[.slice A l.length c, iv frame] W (fun v H => ∃ A2 c2, v = .tuple #[wV zeroW A2 c2, iv (frE l)] ∧ H = []) := by
  refine Fn_.intro Try.func24 rfl rfl (by rfl) ?_
  refine CS.seq ?_
  refine CS.region ?_
  refine RS.alloc rfl ty61 ?_
  intro g4
  refine RS.q rfl (QO.assign) ?_
  refine RS.nil ?_
  refine thenC_n ?_
  refine CS.seq ?_
  refine CS.seq ?_
  refine CS.region ?_
  refine RS.q rfl (QO.move) ?_
  refine RS.call rfl (by rfl) ok25 (by rfl) (fun w ho => checkFrames A c l _ (hA.own ho) hm) ?_
  rintro _ _ ⟨rfl, rfl⟩
  refine RS.q rfl (QO.assign) ?_
  refine RS.nil ?_
  refine thenC_n ?_
  refine CS.seq ?_
  refine CS.region ?_
  refine RS.q rfl (QO.move) ?_
  refine RS.qv rfl (QO.neq (by rfl) (by rfl)) (congrArg Value.bool (show (frE l != 0) = true from bne_iff_ne.2 he)) ?_
  refine RS.nil ?_
  refine thenC_n ?_
  refine CS.condT (by rfl) rfl ?_
  refine CS.seq ?_
  refine CS.region ?_
  refine RS.q rfl (QO.build ty61 pl61 (by rfl)) ?_
  refine RS.q rfl (QO.move) ?_
  first | refine RS.storeB ty61 (by rfl) (by rfl) (by rfl) (by rfl) (by rfl) (by repeat (first | exact Upd.head | apply Upd.tail)) (by rfl) ?_ | refine RS.storeP ty61 (by rfl) (by rfl) (by rfl) (by rfl) (by rfl) (by repeat (first | exact Upd.head | apply Upd.tail)) (by rfl) ?_
  refine RS.q rfl (QO.assign) ?_
  refine RS.nil ?_
  refine thenC_n ?_
  refine CS.ret ?_
  refine thenC_r ?_
  refine retQ.mk (H' := []) (.inr rfl) (RVs.cellA ty61 (by rfl) (by repeat (first | exact List.Mem.head _ | refine List.Mem.tail _ ?_)) (by rfl) (RVs.tmp (by rfl) RVs.nil)) (List.nil_sublist _) ?_
  exact ⟨none, 0, rfl, rfl⟩

set_option maxHeartbeats 4000000 in
set_option maxRecDepth 100000 in
theorem betweenOk (A : Option Addr) (c : Nat) (l : List KF) (frame : Int) (W : World) (hA : KS W A l) (hm : l.length ≤ maxLen) (he : frE l = 0) : Fn_ Try.prog 24 #[.slice A l.length c, iv frame] W (fun v H => ∃ A2 c2, v = .tuple #[wV (betw l frame) A2 c2, iv 0] ∧ OwnP A2 (betw l frame).pts H) := by
  obtain ⟨hl1, hl2, hall⟩ := frE_ok he
  obtain ⟨bA, oA, e1⟩ := hA.isS (show 0 < l.length by omega)
  subst e1
  refine Fn_.intro Try.func24 rfl rfl (by rfl) ?_
  refine CS.seq ?_
  refine CS.region ?_
  refine RS.alloc rfl ty61 ?_
  intro g4
  refine RS.q rfl (QO.assign) ?_
  refine RS.nil ?_
  refine thenC_n ?_
  refine CS.seq ?_
  refine CS.seq ?_
  refine CS.region ?_
  refine RS.q rfl (QO.move) ?_
  refine RS.call rfl (by rfl) ok25 (by rfl) (fun w ho => checkFrames (some ⟨bA, oA, none⟩) c l _ (hA.own ho) (by unfold maxLen; omega)) ?_
  rintro _ _ ⟨rfl, rfl⟩
  refine RS.q rfl (QO.assign) ?_
  refine RS.nil ?_
  refine thenC_n ?_
  refine CS.seq ?_
  refine CS.region ?_
  refine RS.q rfl (QO.move) ?_
  refine RS.qv rfl (QO.neq (by rfl) (by rfl)) (congrArg Value.bool (show (frE l != 0) = false from by rw [he]; rfl)) ?_
  refine RS.nil ?_
  refine thenC_n ?_
  refine CS.condF (by rfl) rfl ?_
  refine CS.skip ?_
  refine thenC_n ?_
  refine CS.seq ?_
  refine CS.region ?_
  refine RS.q rfl (QO.assign) ?_
  refine RS.nil ?_
  refine thenC_n ?_
  refine CS.cut (X := Nat) (7 :: 21 :: 22 :: 23 :: 24 :: 25 :: 26 :: 27 :: 28 :: 29 :: 30 :: 31 :: 32 :: 33 :: 34 :: 35 :: []) (fun i => [(7, iv (i : Int))]) (fun i => [⟨g4, 61, [iv 0, flt 0, flt 0, flt 0, flt 0, flt 0, .slice none 0 0, .bool false]⟩]) (fun i => cntK frame l = i ∧ i ≤ l.length ∧ (∀ j, j < i → (l.getD j default).frame ≤ frame) ∧ (i = l.length ∨ frame < (l.getD i default).frame)) ?_ ?_
  · refine CS.block ?_
    refine CS.loop (X := Nat) (7 :: 21 :: 22 :: 23 :: 24 :: 25 :: 26 :: 27 :: 28 :: 29 :: 30 :: 31 :: 32 :: 33 :: 34 :: 35 :: []) (fun k => [(7, iv (k : Int))]) (fun k => [⟨g4, 61, [iv 0, flt 0, flt 0, flt 0, flt 0, flt 0, .slice none 0 0, .bool false]⟩]) (fun k => k ≤ l.length ∧ ∀ j, j < k → (l.getD j default).frame ≤ frame) (fun k => l.length - k) 0 ⟨Nat.zero_le _, fun j h => absurd h (Nat.not_lt_zero _)⟩ ?_ ?_ ?_
    · exact (by repeat (first | exact kn_nil | refine kn_cons (by rfl) ?_))
    · exact (by repeat (first | exact List.Sublist.refl _ | exact List.nil_sublist _ | refine List.Sublist.cons_cons _ ?_ | refine List.Sublist.cons _ ?_ | exact Sbp.refl | exact Sbp.nil | refine Sbp.cons (by repeat (first | exact Rem.head | apply Rem.tail)) ?_ | exact Sbp.app | refine Sbp.skip ?_))
    · intro k gj5 hz
      obtain ⟨hk, hall2⟩ := hz
      refine CS.seq ?_
      refine CS.seq ?_
      refine CS.region ?_
      refine RS.q rfl (QO.move) ?_
      refine RS.q rfl (QO.move) ?_
      refine RS.q rfl (QO.lenS Try.underlying57 (by rfl)) ?_
      refine RS.q rfl (QO.lss (by rfl) (by rfl)) ?_
      refine RS.q rfl (QO.move) ?_
      refine RS.split (dj := 25) (by rfl) (fun hb0 => ?_) (fun hb0 => ?_)
      · have hb0p := of_decide_eq_true hb0
        refine RS.on (dj := 25) rfl (congrArg Value.bool hb0) ?_
        refine RS.q rfl (QO.move) ?_
        refine RS.on (dj := 25) rfl (congrArg Value.bool hb0) ?_
        refine RS.q rfl (QO.move) ?_
        refine RS.on (dj := 25) rfl (congrArg Value.bool hb0) ?_
        have hq0 := hA.frame (i := k) (show k < l.length by omega) (q := oA + (k : Int).toNat * 10 + 0) (by omega)
        refine RS.q rfl (QO.idx Try.underlying57 ty67 (by rfl) (by rfl) (by omega) (by omega)) ?_
        refine RS.on (dj := 25) rfl (congrArg Value.bool hb0) ?_
        refine RS.q rfl (QO.fieldAddr fo67_0 (by rfl)) ?_
        refine RS.on (dj := 25) rfl (congrArg Value.bool hb0) ?_
        refine RS.q rfl (QO.loadO ty3 (by rfl) hq0) ?_
        refine RS.on (dj := 25) rfl (congrArg Value.bool hb0) ?_
        refine RS.q rfl (QO.move) ?_
        refine RS.on (dj := 25) rfl (congrArg Value.bool hb0) ?_
        refine RS.q rfl (QO.leq (by rfl) (by rfl)) ?_
        refine RS.q rfl (QO.pickT (by rfl) hb0 (by rfl)) ?_
        refine RS.nil ?_
        refine thenC_n ?_
        refine CS.cond (by rfl) (fun hb1 => ?_) (fun hb1 => ?_)
        · have hb1p := of_decide_eq_true hb1
          refine CS.skip ?_
          refine thenC_n ?_
          refine CS.block ?_
          refine CS.region ?_
          refine RS.q rfl (QO.move) ?_
          first | (refine RS.q rfl (QO.add (by rfl) (by rfl) (by omega) (by omega)) ?_) | (refine RS.q rfl (QO.ibin (by rfl) (by rfl) trivial) ?_)
          refine RS.q rfl (QO.assign) ?_
          refine RS.nil ?_
          refine blockC_n ?_
          refine loopQ_n (by intro t ht; repeat (first | with_reducible exact rfl | exact frame_puts ht (frame_mix ht) _ rfl | (refine frame_put rfl ht ?_) | (refine frame_puts ht ?_ _ rfl) | exact frame_mix ht | (refine frame_mix2 rfl ht ?_) | exact rfl)) ?_
          exact ⟨k + 1, ⟨by omega, fun j hj => by
              by_cases e : j = k
              · subst e; omega
              · exact hall2 j (by omega)⟩, by omega, (by repeat (first | exact kn_nil | refine kn_cons (by rfl) ?_)), (by repeat (first | exact List.Sublist.refl _ | exact List.nil_sublist _ | refine List.Sublist.cons_cons _ ?_ | refine List.Sublist.cons _ ?_ | exact Sbp.refl | exact Sbp.nil | refine Sbp.cons (by repeat (first | exact Rem.head | apply Rem.tail)) ?_ | exact Sbp.app | refine Sbp.skip ?_))⟩
        · have hb1p := of_decide_eq_false hb1
          refine CS.exit ?_
          refine thenC_x ?_
          refine loopQ_x ?_
          refine blockC_x ?_
          refine cutQ_n (by intro t ht; repeat (first | with_reducible exact rfl | exact frame_puts ht (frame_mix ht) _ rfl | (refine frame_put rfl ht ?_) | (refine frame_puts ht ?_ _ rfl) | exact frame_mix ht | (refine frame_mix2 rfl ht ?_) | exact rfl)) ?_
          first | exact ⟨k, ⟨cntK_is (by omega) hall2 (.inr (by omega)), by omega, hall2, .inr (by omega)⟩, (by repeat (first | exact kn_nil | refine kn_cons (by rfl) ?_)), (by repeat (first | exact List.Sublist.refl _ | exact List.nil_sublist _ | refine List.Sublist.cons_cons _ ?_ | refine List.Sublist.cons _ ?_ | exact Sbp.refl | exact Sbp.nil | refine Sbp.cons (by repeat (first | exact Rem.head | apply Rem.tail)) ?_ | exact Sbp.app | refine Sbp.skip ?_))⟩ | exact ⟨k, ⟨cntK_is (by omega) hall2 (.inl (by omega)), by omega, hall2, .inl (by omega)⟩, (by repeat (first | exact kn_nil | refine kn_cons (by rfl) ?_)), (by repeat (first | exact List.Sublist.refl _ | exact List.nil_sublist _ | refine List.Sublist.cons_cons _ ?_ | refine List.Sublist.cons _ ?_ | exact Sbp.refl | exact Sbp.nil | refine Sbp.cons (by repeat (first | exact Rem.head | apply Rem.tail)) ?_ | exact Sbp.app | refine Sbp.skip ?_))⟩
      · have hb0p := of_decide_eq_false hb0
        refine RS.off (dj := 25) rfl (.inl (congrArg Value.bool hb0)) (fun _ => rfl) rfl ?_
        refine RS.off (dj := 25) rfl (.inl (congrArg Value.bool hb0)) (fun _ => rfl) rfl ?_
        refine RS.off (dj := 25) rfl (.inl (congrArg Value.bool hb0)) (fun _ => rfl) rfl ?_
        refine RS.off (dj := 25) rfl (.inl (congrArg Value.bool hb0)) (fun _ => rfl) rfl ?_
        refine RS.off (dj := 25) rfl (.inl (congrArg Value.bool hb0)) (fun _ => rfl) rfl ?_
        refine RS.off (dj := 25) rfl (.inl (congrArg Value.bool hb0)) (fun _ => rfl) rfl ?_
        refine RS.off (dj := 25) rfl (.inl (congrArg Value.bool hb0)) (fun _ => rfl) rfl ?_
        refine RS.q rfl (QO.pickF (by rfl) hb0 (by rfl)) ?_
        refine RS.nil ?_
        refine thenC_n ?_
        refine CS.condF (by rfl) rfl ?_
        refine CS.exit ?_
        refine thenC_x ?_
        refine loopQ_x ?_
        refine blockC_x ?_
        refine cutQ_n (by intro t ht; repeat (first | with_reducible exact rfl | exact frame_puts ht (frame_mix ht) _ rfl | (refine frame_put rfl ht ?_) | (refine frame_puts ht ?_ _ rfl) | exact frame_mix ht | (refine frame_mix2 rfl ht ?_) | exact rfl)) ?_
        first | exact ⟨k, ⟨cntK_is (by omega) hall2 (.inr (by omega)), by omega, hall2, .inr (by omega)⟩, (by repeat (first | exact kn_nil | refine kn_cons (by rfl) ?_)), (by repeat (first | exact List.Sublist.refl _ | exact List.nil_sublist _ | refine List.Sublist.cons_cons _ ?_ | refine List.Sublist.cons _ ?_ | exact Sbp.refl | exact Sbp.nil | refine Sbp.cons (by repeat (first | exact Rem.head | apply Rem.tail)) ?_ | exact Sbp.app | refine Sbp.skip ?_))⟩ | exact ⟨k, ⟨cntK_is (by omega) hall2 (.inl (by omega)), by omega, hall2, .inl (by omega)⟩, (by repeat (first | exact kn_nil | refine kn_cons (by rfl) ?_)), (by repeat (first | exact List.Sublist.refl _ | exact List.nil_sublist _ | refine List.Sublist.cons_cons _ ?_ | refine List.Sublist.cons _ ?_ | exact Sbp.refl | exact Sbp.nil | refine Sbp.cons (by repeat (first | exact Rem.head | apply Rem.tail)) ?_ | exact Sbp.app | refine Sbp.skip ?_))⟩
  · intro i gj hz
    obtain ⟨hcnt, hil, hle, hgt⟩ := hz
    refine CS.seq ?_
    refine CS.seq ?_
    refine CS.region ?_
    refine RS.q rfl (QO.move) ?_
    refine RS.q rfl (QO.eql (by rfl) (by rfl)) ?_
    refine RS.nil ?_
    refine thenC_n ?_
    refine CS.cond (by rfl) (fun hb2 => ?_) (fun hb2 => ?_)
    · have hb2p := eq_of_beq hb2
      refine CS.seq ?_
      refine CS.region ?_
      obtain ⟨k0, hk0⟩ : ∃ q, l.getD (0) default = q := ⟨_, rfl⟩
      have hok0 := hA.ok (i := 0) (show 0 < l.length by omega)
      rw [hk0] at hok0
      have hfe0 := frE1_ok (hall (0) (by omega)) hk0
      have hpl0 := (winE_pts hfe0.2.2.2.2.1).1
      have hd0 := hA.win (i := 0) (show 0 < l.length by omega) (q := oA + (0 : Int).toNat * 10 + 2) rfl
      rw [hk0] at hd0
      refine RS.q rfl (QO.move) ?_
      refine RS.q rfl (QO.idx Try.underlying57 ty67 (by rfl) (by rfl) (by omega) (by omega)) ?_
      refine RS.q rfl (QO.fieldAddr fo67_2 (by rfl)) ?_
      refine RS.q rfl (QO.loadOA ty61 (vs := winC k0.win k0.A k0.c) (by rfl) hd0 (by rfl)) ?_
      refine RS.call rfl (by rfl) ok70 (by rfl) (fun w ho => clonedO k0.win k0.A k0.c _ (hok0.1.own ho) (by omega)) ?_
      rintro _ Hn42 ⟨A2, c2, rfl, hO⟩
      refine RS.perm List.perm_append_comm ?_
      first | refine RS.storeB ty61 (by rfl) (by rfl) (by rfl) (by rfl) (by rfl) (by repeat (first | exact Upd.head | apply Upd.tail)) (by rfl) ?_ | refine RS.storeP ty61 (by rfl) (by rfl) (by rfl) (by rfl) (by rfl) (by repeat (first | exact Upd.head | apply Upd.tail)) (by rfl) ?_
      refine RS.q rfl (QO.assign) ?_
      refine RS.nil ?_
      refine thenC_n ?_
      refine CS.ret ?_
      refine thenC_r ?_
      refine retQ.mk (H' := Hn42) (.inr rfl) (RVs.cellA ty61 (by rfl) (by repeat (first | exact List.Mem.head _ | refine List.Mem.tail _ ?_)) (by rfl) (RVs.tmp (by rfl) RVs.nil)) (by repeat (first | exact List.Sublist.refl _ | exact List.nil_sublist _ | refine List.Sublist.cons_cons _ ?_ | refine List.Sublist.cons _ ?_ | exact Sbp.refl | exact Sbp.nil | refine Sbp.cons (by repeat (first | exact Rem.head | apply Rem.tail)) ?_ | exact Sbp.app | refine Sbp.skip ?_)) ?_
      exact ⟨A2, c2, retB (betw_0 (hcnt.trans (by omega)) |>.trans (congrArg KF.win hk0)), ownB (betw_0 (hcnt.trans (by omega)) |>.trans (congrArg KF.win hk0)) hO⟩
    · have hb2p := ne_of_beq_false hb2
      refine CS.skip ?_
      refine thenC_n ?_
      refine CS.seq ?_
      refine CS.region ?_
      refine RS.q rfl (QO.move) ?_
      refine RS.q rfl (QO.move) ?_
      first | (refine RS.q rfl (QO.sub (by rfl) (by rfl) (by omega) (by omega)) ?_) | (refine RS.q rfl (QO.ibin (by rfl) (by rfl) trivial) ?_)
      obtain ⟨ka, hka⟩ : ∃ q, l.getD (i - 1) default = q := ⟨_, rfl⟩
      have hoka := hA.ok (i := i - 1) (show i - 1 < l.length by omega)
      rw [hka] at hoka
      have hfea := frE1_ok (hall (i - 1) (by omega)) hka
      have hpla := (winE_pts hfea.2.2.2.2.1).1
      have hda := hA.whole (i := i - 1) (show i - 1 < l.length by omega) (q := oA + ((i : Int) - 1).toNat * 10) (by omega)
      rw [hka] at hda
      have hfa := hle (i - 1) (by omega)
      rw [hka] at hfa
      refine RS.q rfl (QO.idx Try.underlying57 ty67 (by rfl) (by rfl) (by omega) (by omega)) ?_
      refine RS.q rfl (QO.loadOA ty67 (vs := kfC ka) (by rfl) hda (by rfl)) ?_
      refine RS.alloc rfl ty67 ?_
      intro g8
      first | refine RS.storeB ty67 (by rfl) (by rfl) (by rfl) (by rfl) (by rfl) (by repeat (first | exact Upd.head | apply Upd.tail)) (by rfl) ?_ | refine RS.storeP ty67 (by rfl) (by rfl) (by rfl) (by rfl) (by rfl) (by repeat (first | exact Upd.head | apply Upd.tail)) (by rfl) ?_
      refine RS.nil ?_
      refine thenC_n ?_
      refine CS.seq ?_
      refine CS.seq ?_
      refine CS.region ?_
      refine RS.q rfl (QO.move) ?_
      refine RS.q rfl (QO.move) ?_
      refine RS.q rfl (QO.lenS Try.underlying57 (by rfl)) ?_
      refine RS.q rfl (QO.eql (by rfl) (by rfl)) ?_
      refine RS.q rfl (QO.move) ?_
      refine RS.split (dj := 52) (by rfl) (fun hb3 => ?_) (fun hb3 => ?_)
      · have hb3p := eq_of_beq hb3
        refine RS.off (dj := 52) rfl (.inl (congrArg Value.bool hb3)) (fun _ => rfl) rfl ?_
        refine RS.off (dj := 52) rfl (.inl (congrArg Value.bool hb3)) (fun _ => rfl) rfl ?_
        refine RS.off (dj := 52) rfl (.inl (congrArg Value.bool hb3)) (fun _ => rfl) rfl ?_
        refine RS.off (dj := 52) rfl (.inl (congrArg Value.bool hb3)) (fun _ => rfl) rfl ?_
        refine RS.q rfl (QO.pickT (by rfl) hb3 (by rfl)) ?_
        refine RS.nil ?_
        refine thenC_n ?_
        refine CS.condT (by rfl) rfl ?_
        refine CS.seq ?_
        refine CS.region ?_
        refine RS.q rfl (QO.fieldAddr fo67_2 (by rfl)) ?_
        first | (refine RS.q rfl (QO.loadB ty61 (by rfl) (by repeat (first | exact List.Mem.head _ | refine List.Mem.tail _ ?_)) (by rfl)) ?_) | (refine RS.q rfl (QO.loadA ty61 (by rfl) (by repeat (first | exact List.Mem.head _ | refine List.Mem.tail _ ?_)) (by rfl) (by rfl)) ?_) | (refine RS.q rfl (QO.loadOA ty61 (by rfl) (by assumption) (by rfl)) ?_)
        refine RS.call rfl (by rfl) ok70 (by rfl) (fun w ho => clonedO ka.win ka.A ka.c _ (hoka.1.own ho) (by omega)) ?_
        rintro _ Hn60 ⟨A2, c2, rfl, hO⟩
        refine RS.perm List.perm_append_comm ?_
        first | refine RS.storeB ty61 (by rfl) (by rfl) (by rfl) (by rfl) (by rfl) (by repeat (first | exact Upd.head | apply Upd.tail)) (by rfl) ?_ | refine RS.storeP ty61 (by rfl) (by rfl) (by rfl) (by rfl) (by rfl) (by repeat (first | exact Upd.head | apply Upd.tail)) (by rfl) ?_
        refine RS.q rfl (QO.assign) ?_
        refine RS.nil ?_
        refine thenC_n ?_
        refine CS.ret ?_
        refine thenC_r ?_
        refine retQ.mk (H' := Hn60) (.inr rfl) (RVs.cellA ty61 (by rfl) (by repeat (first | exact List.Mem.head _ | refine List.Mem.tail _ ?_)) (by rfl) (RVs.tmp (by rfl) RVs.nil)) (by repeat (first | exact List.Sublist.refl _ | exact List.nil_sublist _ | refine List.Sublist.cons_cons _ ?_ | refine List.Sublist.cons _ ?_ | exact Sbp.refl | exact Sbp.nil | refine Sbp.cons (by repeat (first | exact Rem.head | apply Rem.tail)) ?_ | exact Sbp.app | refine Sbp.skip ?_)) ?_
        first | exact ⟨A2, c2, retB (betw_e hcnt (by omega) hka (by omega)), ownB (betw_e hcnt (by omega) hka (by omega)) hO⟩
      · have hb3p := ne_of_beq_false hb3
        refine RS.on (dj := 52) rfl (congrArg Value.bool hb3) ?_
        refine RS.q rfl (QO.fieldAddr fo67_0 (by rfl)) ?_
        refine RS.on (dj := 52) rfl (congrArg Value.bool hb3) ?_
        first | (refine RS.q rfl (QO.load ty3 (by rfl) (by repeat (first | exact List.Mem.head _ | refine List.Mem.tail _ ?_)) (by rfl)) ?_) | (refine RS.q rfl (QO.loadO ty3 (by rfl) (by assumption)) ?_) | (refine RS.q rfl (QO.load ty3 (by rfl) (by repeat (first | exact List.Mem.head _ | refine List.Mem.tail _ ?_)) (by assumption)) ?_)
        refine RS.on (dj := 52) rfl (congrArg Value.bool hb3) ?_
        refine RS.q rfl (QO.move) ?_
        refine RS.on (dj := 52) rfl (congrArg Value.bool hb3) ?_
        refine RS.q rfl (QO.eql (by rfl) (by rfl)) ?_
        refine RS.q rfl (QO.pickF (by rfl) hb3 (by rfl)) ?_
        refine RS.nil ?_
        refine thenC_n ?_
        refine CS.cond (by rfl) (fun hb4 => ?_) (fun hb4 => ?_)
        · have hb4p := eq_of_beq hb4
          refine CS.seq ?_
          refine CS.region ?_
          refine RS.q rfl (QO.fieldAddr fo67_2 (by rfl)) ?_
          first | (refine RS.q rfl (QO.loadB ty61 (by rfl) (by repeat (first | exact List.Mem.head _ | refine List.Mem.tail _ ?_)) (by rfl)) ?_) | (refine RS.q rfl (QO.loadA ty61 (by rfl) (by repeat (first | exact List.Mem.head _ | refine List.Mem.tail _ ?_)) (by rfl) (by rfl)) ?_) | (refine RS.q rfl (QO.loadOA ty61 (by rfl) (by assumption) (by rfl)) ?_)
          refine RS.call rfl (by rfl) ok70 (by rfl) (fun w ho => clonedO ka.win ka.A ka.c _ (hoka.1.own ho) (by omega)) ?_
          rintro _ Hn60 ⟨A2, c2, rfl, hO⟩
          refine RS.perm List.perm_append_comm ?_
          first | refine RS.storeB ty61 (by rfl) (by rfl) (by rfl) (by rfl) (by rfl) (by repeat (first | exact Upd.head | apply Upd.tail)) (by rfl) ?_ | refine RS.storeP ty61 (by rfl) (by rfl) (by rfl) (by rfl) (by rfl) (by repeat (first | exact Upd.head | apply Upd.tail)) (by rfl) ?_
          refine RS.q rfl (QO.assign) ?_
          refine RS.nil ?_
          refine thenC_n ?_
          refine CS.ret ?_
          refine thenC_r ?_
          refine retQ.mk (H' := Hn60) (.inr rfl) (RVs.cellA ty61 (by rfl) (by repeat (first | exact List.Mem.head _ | refine List.Mem.tail _ ?_)) (by rfl) (RVs.tmp (by rfl) RVs.nil)) (by repeat (first | exact List.Sublist.refl _ | exact List.nil_sublist _ | refine List.Sublist.cons_cons _ ?_ | refine List.Sublist.cons _ ?_ | exact Sbp.refl | exact Sbp.nil | refine Sbp.cons (by repeat (first | exact Rem.head | apply Rem.tail)) ?_ | exact Sbp.app | refine Sbp.skip ?_)) ?_
          first | exact ⟨A2, c2, retB (betw_e hcnt (by omega) hka (by omega)), ownB (betw_e hcnt (by omega) hka (by omega)) hO⟩
        · have hb4p := ne_of_beq_false hb4
          refine CS.skip ?_
          refine thenC_n ?_
          refine CS.seq ?_
          refine CS.region ?_
          refine RS.q rfl (QO.move) ?_
          refine RS.q rfl (QO.move) ?_
          obtain ⟨kb, hkb⟩ : ∃ q, l.getD (i) default = q := ⟨_, rfl⟩
          have hokb := hA.ok (i := i) (show i < l.length by omega)
          rw [hkb] at hokb
          have hfeb := frE1_ok (hall (i) (by omega)) hkb
          have hplb := (winE_pts hfeb.2.2.2.2.1).1
          have hdb := hA.whole (i := i) (show i < l.length by omega) (q := oA + (i : Int).toNat * 10) (by omega)
          rw [hkb] at hdb
          have hfb : frame < kb.frame := by have h9 := hgt.resolve_left (by omega); rwa [hkb] at h9
          refine RS.q rfl (QO.idx Try.underlying57 ty67 (by rfl) (by rfl) (by omega) (by omega)) ?_
          refine RS.q rfl (QO.loadOA ty67 (vs := kfC kb) (by rfl) hdb (by rfl)) ?_
          refine RS.alloc rfl ty67 ?_
          intro g9
          first | refine RS.storeB ty67 (by rfl) (by rfl) (by rfl) (by rfl) (by rfl) (by repeat (first | exact Upd.head | apply Upd.tail)) (by rfl) ?_ | refine RS.storeP ty67 (by rfl) (by rfl) (by rfl) (by rfl) (by rfl) (by repeat (first | exact Upd.head | apply Upd.tail)) (by rfl) ?_
          refine RS.nil ?_
          refine thenC_n ?_
          refine CS.seq ?_
          refine CS.region ?_
          refine RS.q rfl (QO.move) ?_
          refine RS.q rfl (QO.fieldAddr fo67_0 (by rfl)) ?_
          first | (refine RS.q rfl (QO.load ty3 (by rfl) (by repeat (first | exact List.Mem.head _ | refine List.Mem.tail _ ?_)) (by rfl)) ?_) | (refine RS.q rfl (QO.loadO ty3 (by rfl) (by assumption)) ?_) | (refine RS.q rfl (QO.load ty3 (by rfl) (by repeat (first | exact List.Mem.head _ | refine List.Mem.tail _ ?_)) (by assumption)) ?_)
          first | (refine RS.q rfl (QO.sub (by rfl) (by rfl) (by omega) (by omega)) ?_) | (refine RS.q rfl (QO.ibin (by rfl) (by rfl) trivial) ?_)
          refine RS.q rfl (QO.conv_i64_f32 Try.underlying3 Try.underlying29 (by rfl)) ?_
          refine RS.q rfl (QO.fieldAddr fo67_0 (by rfl)) ?_
          first | (refine RS.q rfl (QO.load ty3 (by rfl) (by repeat (first | exact List.Mem.head _ | refine List.Mem.tail _ ?_)) (by rfl)) ?_) | (refine RS.q rfl (QO.loadO ty3 (by rfl) (by assumption)) ?_) | (refine RS.q rfl (QO.load ty3 (by rfl) (by repeat (first | exact List.Mem.head _ | refine List.Mem.tail _ ?_)) (by assumption)) ?_)
          refine RS.q rfl (QO.fieldAddr fo67_0 (by rfl)) ?_
          first | (refine RS.q rfl (QO.load ty3 (by rfl) (by repeat (first | exact List.Mem.head _ | refine List.Mem.tail _ ?_)) (by rfl)) ?_) | (refine RS.q rfl (QO.loadO ty3 (by rfl) (by assumption)) ?_) | (refine RS.q rfl (QO.load ty3 (by rfl) (by repeat (first | exact List.Mem.head _ | refine List.Mem.tail _ ?_)) (by assumption)) ?_)
          first | (refine RS.q rfl (QO.sub (by rfl) (by rfl) (by omega) (by omega)) ?_) | (refine RS.q rfl (QO.ibin (by rfl) (by rfl) trivial) ?_)
          refine RS.q rfl (QO.conv_i64_f32 Try.underlying3 Try.underlying29 (by rfl)) ?_
          refine RS.farith rfl (by rfl) (by rfl) (by simp) ?_
          intro r76 hr76
          have hq76 := fr_some hr76 (t_div (p := frame - ka.frame) (q := kb.frame - ka.frame) (by omega) (by omega) (by omega)).1
          refine RS.q rfl (QO.assign) ?_
          refine RS.nil ?_
          refine thenC_n ?_
          refine CS.cut (X := Nat) [10, 77, 78, 79, 80, 81, 82, 83, 84] (fun tt => [(10, flt tt)]) (fun tt => [⟨g9, 67, kfC kb⟩, ⟨g8, 67, kfC ka⟩, ⟨g4, 61, [iv 0, flt 0, flt 0, flt 0, flt 0, flt 0, .slice none 0 0, .bool false]⟩]) (fun tt => tt = tV ka kb frame) ?_ ?_
          · refine CS.seq ?_
            refine CS.region ?_
            refine RS.q rfl (QO.fieldAddr fo67_1 (by rfl)) ?_
            first | (refine RS.q rfl (QO.load ty3 (by rfl) (by repeat (first | exact List.Mem.head _ | refine List.Mem.tail _ ?_)) (by rfl)) ?_) | (refine RS.q rfl (QO.loadO ty3 (by rfl) (by assumption)) ?_) | (refine RS.q rfl (QO.load ty3 (by rfl) (by repeat (first | exact List.Mem.head _ | refine List.Mem.tail _ ?_)) (by assumption)) ?_)
            refine RS.nil ?_
            refine thenC_n ?_
            refine CS.block ?_
            refine CS.seq ?_
            refine CS.region ?_
            refine RS.q rfl (QO.eql (by rfl) (by rfl)) ?_
            refine RS.q rfl (QO.assign) ?_
            refine RS.nil ?_
            refine thenC_n ?_
            refine CS.cond (by rfl) (fun hb5 => ?_) (fun hb5 => ?_)
            · have hb5p := eq_of_beq hb5
              refine CS.region ?_
              refine RS.q rfl (QO.move) ?_
              refine RS.call rfl (by rfl) ok71 (by rfl) (fun w ho => smooth_ _ _) ?_
              rintro _ _ ⟨rfl, rfl⟩
              refine RS.q rfl (QO.assign) ?_
              refine RS.nil ?_
              refine blockC_n ?_
              refine cutQ_n (by intro t ht; repeat (first | with_reducible exact rfl | exact frame_puts ht (frame_mix ht) _ rfl | (refine frame_put rfl ht ?_) | (refine frame_puts ht ?_ _ rfl) | exact frame_mix ht | (refine frame_mix2 rfl ht ?_) | exact rfl)) ?_
              first | exact ⟨_, tvc_3 (by omega) hq76, (by repeat (first | exact kn_nil | refine kn_cons (by rfl) ?_)), (by repeat (first | exact List.Sublist.refl _ | exact List.nil_sublist _ | refine List.Sublist.cons_cons _ ?_ | refine List.Sublist.cons _ ?_ | exact Sbp.refl | exact Sbp.nil | refine Sbp.cons (by repeat (first | exact Rem.head | apply Rem.tail)) ?_ | exact Sbp.app | refine Sbp.skip ?_))⟩ | exact ⟨_, tvc_1 (by omega), (by repeat (first | exact kn_nil | refine kn_cons (by rfl) ?_)), (by repeat (first | exact List.Sublist.refl _ | exact List.nil_sublist _ | refine List.Sublist.cons_cons _ ?_ | refine List.Sublist.cons _ ?_ | exact Sbp.refl | exact Sbp.nil | refine Sbp.cons (by repeat (first | exact Rem.head | apply Rem.tail)) ?_ | exact Sbp.app | refine Sbp.skip ?_))⟩ | exact ⟨_, tvc_2 (by omega) (by omega) hq76, (by repeat (first | exact kn_nil | refine kn_cons (by rfl) ?_)), (by repeat (first | exact List.Sublist.refl _ | exact List.nil_sublist _ | refine List.Sublist.cons_cons _ ?_ | refine List.Sublist.cons _ ?_ | exact Sbp.refl | exact Sbp.nil | refine Sbp.cons (by repeat (first | exact Rem.head | apply Rem.tail)) ?_ | exact Sbp.app | refine Sbp.skip ?_))⟩
            · have hb5p := ne_of_beq_false hb5
              refine CS.seq ?_
              refine CS.region ?_
              refine RS.q rfl (QO.eql (by rfl) (by rfl)) ?_
              refine RS.q rfl (QO.assign) ?_
              refine RS.nil ?_
              refine thenC_n ?_
              refine CS.cond (by rfl) (fun hb6 => ?_) (fun hb6 => ?_)
              · have hb6p := eq_of_beq hb6
                refine CS.region ?_
                refine RS.q rfl (QO.assign) ?_
                refine RS.nil ?_
                refine blockC_n ?_
                refine cutQ_n (by intro t ht; repeat (first | with_reducible exact rfl | exact frame_puts ht (frame_mix ht) _ rfl | (refine frame_put rfl ht ?_) | (refine frame_puts ht ?_ _ rfl) | exact frame_mix ht | (refine frame_mix2 rfl ht ?_) | exact rfl)) ?_
                first | exact ⟨_, tvc_3 (by omega) hq76, (by repeat (first | exact kn_nil | refine kn_cons (by rfl) ?_)), (by repeat (first | exact List.Sublist.refl _ | exact List.nil_sublist _ | refine List.Sublist.cons_cons _ ?_ | refine List.Sublist.cons _ ?_ | exact Sbp.refl | exact Sbp.nil | refine Sbp.cons (by repeat (first | exact Rem.head | apply Rem.tail)) ?_ | exact Sbp.app | refine Sbp.skip ?_))⟩ | exact ⟨_, tvc_1 (by omega), (by repeat (first | exact kn_nil | refine kn_cons (by rfl) ?_)), (by repeat (first | exact List.Sublist.refl _ | exact List.nil_sublist _ | refine List.Sublist.cons_cons _ ?_ | refine List.Sublist.cons _ ?_ | exact Sbp.refl | exact Sbp.nil | refine Sbp.cons (by repeat (first | exact Rem.head | apply Rem.tail)) ?_ | exact Sbp.app | refine Sbp.skip ?_))⟩ | exact ⟨_, tvc_2 (by omega) (by omega) hq76, (by repeat (first | exact kn_nil | refine kn_cons (by rfl) ?_)), (by repeat (first | exact List.Sublist.refl _ | exact List.nil_sublist _ | refine List.Sublist.cons_cons _ ?_ | refine List.Sublist.cons _ ?_ | exact Sbp.refl | exact Sbp.nil | refine Sbp.cons (by repeat (first | exact Rem.head | apply Rem.tail)) ?_ | exact Sbp.app | refine Sbp.skip ?_))⟩
              · have hb6p := ne_of_beq_false hb6
                refine CS.skip ?_
                refine blockC_n ?_
                refine cutQ_n (by intro t ht; repeat (first | with_reducible exact rfl | exact frame_puts ht (frame_mix ht) _ rfl | (refine frame_put rfl ht ?_) | (refine frame_puts ht ?_ _ rfl) | exact frame_mix ht | (refine frame_mix2 rfl ht ?_) | exact rfl)) ?_
                first | exact ⟨_, tvc_3 (by omega) hq76, (by repeat (first | exact kn_nil | refine kn_cons (by rfl) ?_)), (by repeat (first | exact List.Sublist.refl _ | exact List.nil_sublist _ | refine List.Sublist.cons_cons _ ?_ | refine List.Sublist.cons _ ?_ | exact Sbp.refl | exact Sbp.nil | refine Sbp.cons (by repeat (first | exact Rem.head | apply Rem.tail)) ?_ | exact Sbp.app | refine Sbp.skip ?_))⟩ | exact ⟨_, tvc_1 (by omega), (by repeat (first | exact kn_nil | refine kn_cons (by rfl) ?_)), (by repeat (first | exact List.Sublist.refl _ | exact List.nil_sublist _ | refine List.Sublist.cons_cons _ ?_ | refine List.Sublist.cons _ ?_ | exact Sbp.refl | exact Sbp.nil | refine Sbp.cons (by repeat (first | exact Rem.head | apply Rem.tail)) ?_ | exact Sbp.app | refine Sbp.skip ?_))⟩ | exact ⟨_, tvc_2 (by omega) (by omega) hq76, (by repeat (first | exact kn_nil | refine kn_cons (by rfl) ?_)), (by repeat (first | exact List.Sublist.refl _ | exact List.nil_sublist _ | refine List.Sublist.cons_cons _ ?_ | refine List.Sublist.cons _ ?_ | exact Sbp.refl | exact Sbp.nil | refine Sbp.cons (by repeat (first | exact Rem.head | apply Rem.tail)) ?_ | exact Sbp.app | refine Sbp.skip ?_))⟩
          · intro tt gj hz
            have htt := hz
            refine CS.seq ?_
            by_cases hsp19 : ka.win.pts = []
            · refine CS.region ?_
              refine RS.q rfl (QO.fieldAddr fo67_2 (by rfl)) ?_
              first | (refine RS.q rfl (QO.loadB ty61 (by rfl) (by repeat (first | exact List.Mem.head _ | refine List.Mem.tail _ ?_)) (by rfl)) ?_) | (refine RS.q rfl (QO.loadA ty61 (by rfl) (by repeat (first | exact List.Mem.head _ | refine List.Mem.tail _ ?_)) (by rfl) (by rfl)) ?_) | (refine RS.q rfl (QO.loadOA ty61 (by rfl) (by assumption) (by rfl)) ?_)
              refine RS.call rfl (by rfl) ok70 (by rfl) (fun w ho => clonedE ka.win ka.A ka.c _ hsp19) ?_
              rintro _ _ ⟨A2, c2, rfl, rfl⟩
              refine RS.alloc rfl ty61 ?_
              intro g11
              first | refine RS.storeB ty61 (by rfl) (by rfl) (by rfl) (by rfl) (by rfl) (by repeat (first | exact Upd.head | apply Upd.tail)) (by rfl) ?_ | refine RS.storeP ty61 (by rfl) (by rfl) (by rfl) (by rfl) (by rfl) (by repeat (first | exact Upd.head | apply Upd.tail)) (by rfl) ?_
              refine RS.nil ?_
              refine thenC_n ?_
              refine CS.seq ?_
              refine CS.region ?_
              refine RS.q rfl (QO.fieldAddr fo67_2 (by rfl)) ?_
              first | (refine RS.q rfl (QO.loadB ty61 (by rfl) (by repeat (first | exact List.Mem.head _ | refine List.Mem.tail _ ?_)) (by rfl)) ?_) | (refine RS.q rfl (QO.loadA ty61 (by rfl) (by repeat (first | exact List.Mem.head _ | refine List.Mem.tail _ ?_)) (by rfl) (by rfl)) ?_) | (refine RS.q rfl (QO.loadOA ty61 (by rfl) (by assumption) (by rfl)) ?_)
              refine RS.alloc rfl ty61 ?_
              intro g12
              first | refine RS.storeB ty61 (by rfl) (by rfl) (by rfl) (by rfl) (by rfl) (by repeat (first | exact Upd.head | apply Upd.tail)) (by rfl) ?_ | refine RS.storeP ty61 (by rfl) (by rfl) (by rfl) (by rfl) (by rfl) (by repeat (first | exact Upd.head | apply Upd.tail)) (by rfl) ?_
              refine RS.nil ?_
              refine thenC_n ?_
              refine CS.seq ?_
              refine CS.draw2 [13, 15] (HT := [⟨g12, 61, winC kb.win kb.A kb.c⟩, ⟨g9, 67, kfC kb⟩, ⟨g8, 67, kfC ka⟩, ⟨g4, 61, [iv 0, flt 0, flt 0, flt 0, flt 0, flt 0, .slice none 0 0, .bool false]⟩]) (by repeat (first | exact List.Sublist.refl _ | exact List.nil_sublist _ | refine List.Sublist.cons_cons _ ?_ | refine List.Sublist.cons _ ?_ | exact Sbp.refl | exact Sbp.nil | refine Sbp.cons (by repeat (first | exact Rem.head | apply Rem.tail)) ?_ | exact Sbp.app | refine Sbp.skip ?_)) rfl (by kernel_rfl) ?_
              refine RT2.take1 (i := 0) rfl (by kernel_rfl) rfl (QO.fieldAddr fo61_1 (by rfl)) ?_
              first | (refine RT2.take1 (i := 1) rfl (by kernel_rfl) rfl (QO.load ty29 (by rfl) (by repeat (first | exact List.Mem.head _ | refine List.Mem.tail _ ?_)) (by rfl)) ?_) | (refine RT2.take1 (i := 1) rfl (by kernel_rfl) rfl (QO.loadO ty29 (by rfl) (by assumption)) ?_) | (refine RT2.take1 (i := 1) rfl (by kernel_rfl) rfl (QO.load ty29 (by rfl) (by repeat (first | exact List.Mem.head _ | refine List.Mem.tail _ ?_)) (by assumption)) ?_)
              refine RT2.take1 (i := 2) rfl (by kernel_rfl) rfl (QO.fieldAddr fo61_1 (by rfl)) ?_
              first | (refine RT2.take1 (i := 3) rfl (by kernel_rfl) rfl (QO.load ty29 (by rfl) (by repeat (first | exact List.Mem.head _ | refine List.Mem.tail _ ?_)) (by rfl)) ?_) | (refine RT2.take1 (i := 3) rfl (by kernel_rfl) rfl (QO.loadO ty29 (by rfl) (by assumption)) ?_) | (refine RT2.take1 (i := 3) rfl (by kernel_rfl) rfl (QO.load ty29 (by rfl) (by repeat (first | exact List.Mem.head _ | refine List.Mem.tail _ ?_)) (by assumption)) ?_)
              refine RT2.take1 (i := 4) rfl (by kernel_rfl) rfl (QO.move) ?_
              refine RT2.take1 (i := 6) rfl (by kernel_rfl) rfl (QO.fieldAddr fo61_2 (by rfl)) ?_
              first | (refine RT2.take1 (i := 7) rfl (by kernel_rfl) rfl (QO.load ty29 (by rfl) (by repeat (first | exact List.Mem.head _ | refine List.Mem.tail _ ?_)) (by rfl)) ?_) | (refine RT2.take1 (i := 7) rfl (by kernel_rfl) rfl (QO.loadO ty29 (by rfl) (by assumption)) ?_) | (refine RT2.take1 (i := 7) rfl (by kernel_rfl) rfl (QO.load ty29 (by rfl) (by repeat (first | exact List.Mem.head _ | refine List.Mem.tail _ ?_)) (by assumption)) ?_)
              refine RT2.take2 (i := 8) rfl (by kernel_rfl) rfl (QO.fieldAddr fo61_2 (by rfl)) ?_
              first | (refine RT2.take2 (i := 9) rfl (by kernel_rfl) rfl (QO.load ty29 (by rfl) (by repeat (first | exact List.Mem.head _ | refine List.Mem.tail _ ?_)) (by rfl)) ?_) | (refine RT2.take2 (i := 9) rfl (by kernel_rfl) rfl (QO.loadO ty29 (by rfl) (by assumption)) ?_) | (refine RT2.take2 (i := 9) rfl (by kernel_rfl) rfl (QO.load ty29 (by rfl) (by repeat (first | exact List.Mem.head _ | refine List.Mem.tail _ ?_)) (by assumption)) ?_)
              refine RT2.take2 (i := 10) rfl (by kernel_rfl) rfl (QO.move) ?_
              refine RT2.one (i := 5) (by kernel_rfl) rfl ?_
              refine RS.call rfl (by rfl) ok72 (by rfl) (fun w ho => lerp _ _ _ _) ?_
              rintro _ _ ⟨rfl, rfl⟩
              refine RS.nil ⟨(by repeat (first | exact List.Sublist.refl _ | exact List.nil_sublist _ | refine List.Sublist.cons_cons _ ?_ | refine List.Sublist.cons _ ?_ | exact Sbp.refl | exact Sbp.nil | refine Sbp.cons (by repeat (first | exact Rem.head | apply Rem.tail)) ?_ | exact Sbp.app | refine Sbp.skip ?_)), (by repeat (first | exact List.Sublist.refl _ | exact List.nil_sublist _ | refine List.Sublist.cons_cons _ ?_ | refine List.Sublist.cons _ ?_ | exact Sbp.refl | exact Sbp.nil | refine Sbp.cons (by repeat (first | exact Rem.head | apply Rem.tail)) ?_ | exact Sbp.app | refine Sbp.skip ?_)), ?_⟩
              refine RT2.take1 (i := 12) rfl (by kernel_rfl) rfl (QO.fieldAddr fo61_1 (by rfl)) ?_
              refine RT2.one (i := 11) (by kernel_rfl) rfl ?_
              refine RS.call rfl (by rfl) ok72 (by rfl) (fun w ho => lerp _ _ _ _) ?_
              rintro _ _ ⟨rfl, rfl⟩
              refine RS.nil ⟨(by repeat (first | exact List.Sublist.refl _ | exact List.nil_sublist _ | refine List.Sublist.cons_cons _ ?_ | refine List.Sublist.cons _ ?_ | exact Sbp.refl | exact Sbp.nil | refine Sbp.cons (by repeat (first | exact Rem.head | apply Rem.tail)) ?_ | exact Sbp.app | refine Sbp.skip ?_)), (by repeat (first | exact List.Sublist.refl _ | exact List.nil_sublist _ | refine List.Sublist.cons_cons _ ?_ | refine List.Sublist.cons _ ?_ | exact Sbp.refl | exact Sbp.nil | refine Sbp.cons (by repeat (first | exact Rem.head | apply Rem.tail)) ?_ | exact Sbp.app | refine Sbp.skip ?_)), ?_⟩
              refine RT2.oneX (i := 13) (by kernel_rfl) rfl (by kernel_rfl) ?_
              refine RS.store1 ty29 rfl (by rfl) (by rfl) (by rfl) (by repeat (first | exact Upd.head | apply Upd.tail)) (by first | (simp; done) | (simp; omega) | omega) ?_
              refine RS.nil ⟨(by repeat (first | exact List.Sublist.refl _ | exact List.nil_sublist _ | refine List.Sublist.cons_cons _ ?_ | refine List.Sublist.cons _ ?_ | exact Sbp.refl | exact Sbp.nil | refine Sbp.cons (by repeat (first | exact Rem.head | apply Rem.tail)) ?_ | exact Sbp.app | refine Sbp.skip ?_)), ?_⟩
              refine RT2.take2 (i := 14) rfl (by kernel_rfl) rfl (QO.fieldAddr fo61_2 (by rfl)) ?_
              refine RT2.oneX (i := 15) (by kernel_rfl) rfl (by kernel_rfl) ?_
              refine RS.store1 ty29 rfl (by rfl) (by rfl) (by rfl) (by repeat (first | exact Upd.head | apply Upd.tail)) (by first | (simp; done) | (simp; omega) | omega) ?_
              refine RS.nil ⟨(by repeat (first | exact List.Sublist.refl _ | exact List.nil_sublist _ | refine List.Sublist.cons_cons _ ?_ | refine List.Sublist.cons _ ?_ | exact Sbp.refl | exact Sbp.nil | refine Sbp.cons (by repeat (first | exact Rem.head | apply Rem.tail)) ?_ | exact Sbp.app | refine Sbp.skip ?_)), ?_⟩
              refine RT2.done (by kernel_rfl) ?_
              refine thenC_n ?_
              refine CS.seq ?_
              refine CS.draw2 [13, 15] (HT := [⟨g12, 61, winC kb.win kb.A kb.c⟩, ⟨g9, 67, kfC kb⟩, ⟨g8, 67, kfC ka⟩, ⟨g4, 61, [iv 0, flt 0, flt 0, flt 0, flt 0, flt 0, .slice none 0 0, .bool false]⟩]) (by repeat (first | exact List.Sublist.refl _ | exact List.nil_sublist _ | refine List.Sublist.cons_cons _ ?_ | refine List.Sublist.cons _ ?_ | exact Sbp.refl | exact Sbp.nil | refine Sbp.cons (by repeat (first | exact Rem.head | apply Rem.tail)) ?_ | exact Sbp.app | refine Sbp.skip ?_)) rfl (by kernel_rfl) ?_
              refine RT2.take1 (i := 0) rfl (by kernel_rfl) rfl (QO.fieldAddr fo61_3 (by rfl)) ?_
              first | (refine RT2.take1 (i := 1) rfl (by kernel_rfl) rfl (QO.load ty29 (by rfl) (by repeat (first | exact List.Mem.head _ | refine List.Mem.tail _ ?_)) (by rfl)) ?_) | (refine RT2.take1 (i := 1) rfl (by kernel_rfl) rfl (QO.loadO ty29 (by rfl) (by assumption)) ?_) | (refine RT2.take1 (i := 1) rfl (by kernel_rfl) rfl (QO.load ty29 (by rfl) (by repeat (first | exact List.Mem.head _ | refine List.Mem.tail _ ?_)) (by assumption)) ?_)
              refine RT2.take1 (i := 2) rfl (by kernel_rfl) rfl (QO.fieldAddr fo61_3 (by rfl)) ?_
              first | (refine RT2.take1 (i := 3) rfl (by kernel_rfl) rfl (QO.load ty29 (by rfl) (by repeat (first | exact List.Mem.head _ | refine List.Mem.tail _ ?_)) (by rfl)) ?_) | (refine RT2.take1 (i := 3) rfl (by kernel_rfl) rfl (QO.loadO ty29 (by rfl) (by assumption)) ?_) | (refine RT2.take1 (i := 3) rfl (by kernel_rfl) rfl (QO.load ty29 (by rfl) (by repeat (first | exact List.Mem.head _ | refine List.Mem.tail _ ?_)) (by assumption)) ?_)
              refine RT2.take1 (i := 4) rfl (by kernel_rfl) rfl (QO.move) ?_
              refine RT2.take1 (i := 6) rfl (by kernel_rfl) rfl (QO.fieldAddr fo61_4 (by rfl)) ?_
              first | (refine RT2.take1 (i := 7) rfl (by kernel_rfl) rfl (QO.load ty29 (by rfl) (by repeat (first | exact List.Mem.head _ | refine List.Mem.tail _ ?_)) (by rfl)) ?_) | (refine RT2.take1 (i := 7) rfl (by kernel_rfl) rfl (QO.loadO ty29 (by rfl) (by assumption)) ?_) | (refine RT2.take1 (i := 7) rfl (by kernel_rfl) rfl (QO.load ty29 (by rfl) (by repeat (first | exact List.Mem.head _ | refine List.Mem.tail _ ?_)) (by assumption)) ?_)
              refine RT2.take2 (i := 8) rfl (by kernel_rfl) rfl (QO.fieldAddr fo61_4 (by rfl)) ?_
              first | (refine RT2.take2 (i := 9) rfl (by kernel_rfl) rfl (QO.load ty29 (by rfl) (by repeat (first | exact List.Mem.head _ | refine List.Mem.tail _ ?_)) (by rfl)) ?_) | (refine RT2.take2 (i := 9) rfl (by kernel_rfl) rfl (QO.loadO ty29 (by rfl) (by assumption)) ?_) | (refine RT2.take2 (i := 9) rfl (by kernel_rfl) rfl (QO.load ty29 (by rfl) (by repeat (first | exact List.Mem.head _ | refine List.Mem.tail _ ?_)) (by assumption)) ?_)
              refine RT2.take2 (i := 10) rfl (by kernel_rfl) rfl (QO.move) ?_
              refine RT2.one (i := 5) (by kernel_rfl) rfl ?_
              refine RS.call rfl (by rfl) ok72 (by rfl) (fun w ho => lerp _ _ _ _) ?_
              rintro _ _ ⟨rfl, rfl⟩
              refine RS.nil ⟨(by repeat (first | exact List.Sublist.refl _ | exact List.nil_sublist _ | refine List.Sublist.cons_cons _ ?_ | refine List.Sublist.cons _ ?_ | exact Sbp.refl | exact Sbp.nil | refine Sbp.cons (by repeat (first | exact Rem.head | apply Rem.tail)) ?_ | exact Sbp.app | refine Sbp.skip ?_)), (by repeat (first | exact List.Sublist.refl _ | exact List.nil_sublist _ | refine List.Sublist.cons_cons _ ?_ | refine List.Sublist.cons _ ?_ | exact Sbp.refl | exact Sbp.nil | refine Sbp.cons (by repeat (first | exact Rem.head | apply Rem.tail)) ?_ | exact Sbp.app | refine Sbp.skip ?_)), ?_⟩
              refine RT2.take1 (i := 12) rfl (by kernel_rfl) rfl (QO.fieldAddr fo61_3 (by rfl)) ?_
              refine RT2.one (i := 11) (by kernel_rfl) rfl ?_
              refine RS.call rfl (by rfl) ok72 (by rfl) (fun w ho => lerp _ _ _ _) ?_
              rintro _ _ ⟨rfl, rfl⟩
              refine RS.nil ⟨(by repeat (first | exact List.Sublist.refl _ | exact List.nil_sublist _ | refine List.Sublist.cons_cons _ ?_ | refine List.Sublist.cons _ ?_ | exact Sbp.refl | exact Sbp.nil | refine Sbp.cons (by repeat (first | exact Rem.head | apply Rem.tail)) ?_ | exact Sbp.app | refine Sbp.skip ?_)), (by repeat (first | exact List.Sublist.refl _ | exact List.nil_sublist _ | refine List.Sublist.cons_cons _ ?_ | refine List.Sublist.cons _ ?_ | exact Sbp.refl | exact Sbp.nil | refine Sbp.cons (by repeat (first | exact Rem.head | apply Rem.tail)) ?_ | exact Sbp.app | refine Sbp.skip ?_)), ?_⟩
              refine RT2.oneX (i := 13) (by kernel_rfl) rfl (by kernel_rfl) ?_
              refine RS.store1 ty29 rfl (by rfl) (by rfl) (by rfl) (by repeat (first | exact Upd.head | apply Upd.tail)) (by first | (simp; done) | (simp; omega) | omega) ?_
              refine RS.nil ⟨(by repeat (first | exact List.Sublist.refl _ | exact List.nil_sublist _ | refine List.Sublist.cons_cons _ ?_ | refine List.Sublist.cons _ ?_ | exact Sbp.refl | exact Sbp.nil | refine Sbp.cons (by repeat (first | exact Rem.head | apply Rem.tail)) ?_ | exact Sbp.app | refine Sbp.skip ?_)), ?_⟩
              refine RT2.take2 (i := 14) rfl (by kernel_rfl) rfl (QO.fieldAddr fo61_4 (by rfl)) ?_
              refine RT2.oneX (i := 15) (by kernel_rfl) rfl (by kernel_rfl) ?_
              refine RS.store1 ty29 rfl (by rfl) (by rfl) (by rfl) (by repeat (first | exact Upd.head | apply Upd.tail)) (by first | (simp; done) | (simp; omega) | omega) ?_
              refine RS.nil ⟨(by repeat (first | exact List.Sublist.refl _ | exact List.nil_sublist _ | refine List.Sublist.cons_cons _ ?_ | refine List.Sublist.cons _ ?_ | exact Sbp.refl | exact Sbp.nil | refine Sbp.cons (by repeat (first | exact Rem.head | apply Rem.tail)) ?_ | exact Sbp.app | refine Sbp.skip ?_)), ?_⟩
              refine RT2.done (by kernel_rfl) ?_
              refine thenC_n ?_
              refine CS.seq ?_
              refine CS.region ?_
              refine RS.q rfl (QO.fieldAddr fo61_5 (by rfl)) ?_
              first | (refine RS.q rfl (QO.load ty29 (by rfl) (by repeat (first | exact List.Mem.head _ | refine List.Mem.tail _ ?_)) (by rfl)) ?_) | (refine RS.q rfl (QO.loadO ty29 (by rfl) (by assumption)) ?_) | (refine RS.q rfl (QO.load ty29 (by rfl) (by repeat (first | exact List.Mem.head _ | refine List.Mem.tail _ ?_)) (by assumption)) ?_)
              refine RS.q rfl (QO.fieldAddr fo61_5 (by rfl)) ?_
              first | (refine RS.q rfl (QO.load ty29 (by rfl) (by repeat (first | exact List.Mem.head _ | refine List.Mem.tail _ ?_)) (by rfl)) ?_) | (refine RS.q rfl (QO.loadO ty29 (by rfl) (by assumption)) ?_) | (refine RS.q rfl (QO.load ty29 (by rfl) (by repeat (first | exact List.Mem.head _ | refine List.Mem.tail _ ?_)) (by assumption)) ?_)
              refine RS.q rfl (QO.move) ?_
              refine RS.call rfl (by rfl) ok72 (by rfl) (fun w ho => lerp _ _ _ _) ?_
              rintro _ _ ⟨rfl, rfl⟩
              refine RS.q rfl (QO.fieldAddr fo61_5 (by rfl)) ?_
              refine RS.store1 ty29 rfl (by rfl) (by rfl) (by rfl) (by repeat (first | exact Upd.head | apply Upd.tail)) (by first | (simp; done) | (simp; omega) | omega) ?_
              refine RS.nil ?_
              refine thenC_n ?_
              refine CS.seq ?_
              refine CS.seq ?_
              refine CS.region ?_
              refine RS.q rfl (QO.fieldAddr fo61_6 (by rfl)) ?_
              first | (refine RS.q rfl (QO.load ty59 (by rfl) (by repeat (first | exact List.Mem.head _ | refine List.Mem.tail _ ?_)) (by rfl)) ?_) | (refine RS.q rfl (QO.loadO ty59 (by rfl) (by assumption)) ?_) | (refine RS.q rfl (QO.load ty59 (by rfl) (by repeat (first | exact List.Mem.head _ | refine List.Mem.tail _ ?_)) (by assumption)) ?_)
              refine RS.q rfl (QO.lenS Try.underlying59 (by rfl)) ?_
              refine RS.q rfl (QO.move) ?_
              refine RS.nil ?_
              refine thenC_n ?_
              refine CS.block ?_
              refine CS.loop (X := Unit) (13 :: 14 :: 128 :: 129 :: 130 :: 131 :: 132 :: 133 :: 134 :: 135 :: 136 :: 137 :: 138 :: 139 :: 140 :: 141 :: 142 :: 143 :: 144 :: 145 :: 146 :: 147 :: 148 :: 149 :: 150 :: 151 :: 152 :: 153 :: 154 :: 155 :: 156 :: 157 :: 158 :: 159 :: 160 :: 161 :: 162 :: 163 :: 164 :: 165 :: 166 :: 167 :: 168 :: 169 :: 170 :: 171 :: 172 :: 173 :: 174 :: 175 :: 176 :: 177 :: 178 :: 179 :: []) (fun z => [(128, iv 0)]) (fun z => [⟨g12, 61, winC kb.win kb.A kb.c⟩, ⟨g11, 61, [iv ka.win.kind, flt (lerpV ka.win.x kb.win.x tt), flt (lerpV ka.win.y kb.win.y tt), flt (lerpV ka.win.w kb.win.w tt), flt (lerpV ka.win.h kb.win.h tt), flt (lerpV ka.win.soft kb.win.soft tt), .slice A2 ka.win.pts.length c2, .bool ka.win.out]⟩, ⟨g9, 67, kfC kb⟩, ⟨g8, 67, kfC ka⟩, ⟨g4, 61, [iv 0, flt 0, flt 0, flt 0, flt 0, flt 0, .slice none 0 0, .bool false]⟩]) (fun z => True) (fun z => 0) () trivial ?_ ?_ ?_
              · exact (by repeat (first | exact kn_nil | refine kn_cons (by rfl) ?_))
              · exact (by repeat (first | exact List.Sublist.refl _ | exact List.nil_sublist _ | refine List.Sublist.cons_cons _ ?_ | refine List.Sublist.cons _ ?_ | exact Sbp.refl | exact Sbp.nil | refine Sbp.cons (by repeat (first | exact Rem.head | apply Rem.tail)) ?_ | exact Sbp.app | refine Sbp.skip ?_))
              · intro z gj25 hz
                refine CS.seq ?_
                refine CS.region ?_
                have hlz : ka.win.pts.length = 0 := by rw [hsp19]; rfl
                refine RS.qv rfl (QO.lss (by rfl) (by rfl)) (congrArg Value.bool (show _ = false from decide_eq_false (by omega))) ?_
                refine RS.nil ?_
                refine thenC_n ?_
                refine CS.seq ?_
                refine CS.condF (by rfl) rfl ?_
                refine CS.exit ?_
                refine thenC_x ?_
                refine loopQ_x ?_
                refine blockC_x ?_
                refine thenC_n ?_
                refine CS.seq ?_
                refine CS.region ?_
                first | (refine RS.q rfl (QO.loadB ty61 (by rfl) (by repeat (first | exact List.Mem.head _ | refine List.Mem.tail _ ?_)) (by rfl)) ?_) | (refine RS.q rfl (QO.loadA ty61 (by rfl) (by repeat (first | exact List.Mem.head _ | refine List.Mem.tail _ ?_)) (by rfl) (by rfl)) ?_) | (refine RS.q rfl (QO.loadOA ty61 (by rfl) (by assumption) (by rfl)) ?_)
                first | refine RS.storeB ty61 (by rfl) (by rfl) (by rfl) (by rfl) (by rfl) (by repeat (first | exact Upd.head | apply Upd.tail)) (by rfl) ?_ | refine RS.storeP ty61 (by rfl) (by rfl) (by rfl) (by rfl) (by rfl) (by repeat (first | exact Upd.head | apply Upd.tail)) (by rfl) ?_
                refine RS.q rfl (QO.assign) ?_
                refine RS.nil ?_
                refine thenC_n ?_
                refine CS.ret ?_
                refine retQ.mk (H' := []) (.inr rfl) (RVs.cellA ty61 (by rfl) (by repeat (first | exact List.Mem.head _ | refine List.Mem.tail _ ?_)) (by rfl) (RVs.tmp (by rfl) RVs.nil)) (List.nil_sublist _) ?_
                exact ⟨A2, c2, mixEnd (betw_m hcnt (by omega) (by omega) hka hkb htt), ownNil (mixNil (betw_m hcnt (by omega) (by omega) hka hkb htt) hsp19)⟩
            · refine CS.region ?_
              refine RS.q rfl (QO.fieldAddr fo67_2 (by rfl)) ?_
              first | (refine RS.q rfl (QO.loadB ty61 (by rfl) (by repeat (first | exact List.Mem.head _ | refine List.Mem.tail _ ?_)) (by rfl)) ?_) | (refine RS.q rfl (QO.loadA ty61 (by rfl) (by repeat (first | exact List.Mem.head _ | refine List.Mem.tail _ ?_)) (by rfl) (by rfl)) ?_) | (refine RS.q rfl (QO.loadOA ty61 (by rfl) (by assumption) (by rfl)) ?_)
              refine RS.call rfl (by rfl) ok70 (by rfl) (fun w ho => clonedP ka.win ka.A ka.c _ (hoka.1.own ho) (by have h9 := mt (List.eq_nil_of_length_eq_zero (l := ka.win.pts)) hsp19; omega) (by omega)) ?_
              rintro _ _ ⟨gp, cp, jk, rfl, rfl, hcp, hcpx⟩
              refine RS.alloc rfl ty61 ?_
              intro g11
              first | refine RS.storeB ty61 (by rfl) (by rfl) (by rfl) (by rfl) (by rfl) (by repeat (first | exact Upd.head | apply Upd.tail)) (by rfl) ?_ | refine RS.storeP ty61 (by rfl) (by rfl) (by rfl) (by rfl) (by rfl) (by repeat (first | exact Upd.head | apply Upd.tail)) (by rfl) ?_
              refine RS.nil ?_
              refine thenC_n ?_
              refine CS.seq ?_
              refine CS.region ?_
              refine RS.q rfl (QO.fieldAddr fo67_2 (by rfl)) ?_
              first | (refine RS.q rfl (QO.loadB ty61 (by rfl) (by repeat (first | exact List.Mem.head _ | refine List.Mem.tail _ ?_)) (by rfl)) ?_) | (refine RS.q rfl (QO.loadA ty61 (by rfl) (by repeat (first | exact List.Mem.head _ | refine List.Mem.tail _ ?_)) (by rfl) (by rfl)) ?_) | (refine RS.q rfl (QO.loadOA ty61 (by rfl) (by assumption) (by rfl)) ?_)
              refine RS.alloc rfl ty61 ?_
              intro g12
              first | refine RS.storeB ty61 (by rfl) (by rfl) (by rfl) (by rfl) (by rfl) (by repeat (first | exact Upd.head | apply Upd.tail)) (by rfl) ?_ | refine RS.storeP ty61 (by rfl) (by rfl) (by rfl) (by rfl) (by rfl) (by repeat (first | exact Upd.head | apply Upd.tail)) (by rfl) ?_
              refine RS.nil ?_
              refine thenC_n ?_
              refine CS.seq ?_
              refine CS.draw2 [13, 15] (HT := [⟨g12, 61, winC kb.win kb.A kb.c⟩, ⟨gp, 31, psC ka.win.pts ++ jk⟩, ⟨g9, 67, kfC kb⟩, ⟨g8, 67, kfC ka⟩, ⟨g4, 61, [iv 0, flt 0, flt 0, flt 0, flt 0, flt 0, .slice none 0 0, .bool false]⟩]) (by repeat (first | exact List.Sublist.refl _ | exact List.nil_sublist _ | refine List.Sublist.cons_cons _ ?_ | refine List.Sublist.cons _ ?_ | exact Sbp.refl | exact Sbp.nil | refine Sbp.cons (by repeat (first | exact Rem.head | apply Rem.tail)) ?_ | exact Sbp.app | refine Sbp.skip ?_)) rfl (by kernel_rfl) ?_
              refine RT2.take1 (i := 0) rfl (by kernel_rfl) rfl (QO.fieldAddr fo61_1 (by rfl)) ?_
              first | (refine RT2.take1 (i := 1) rfl (by kernel_rfl) rfl (QO.load ty29 (by rfl) (by repeat (first | exact List.Mem.head _ | refine List.Mem.tail _ ?_)) (by rfl)) ?_) | (refine RT2.take1 (i := 1) rfl (by kernel_rfl) rfl (QO.loadO ty29 (by rfl) (by assumption)) ?_) | (refine RT2.take1 (i := 1) rfl (by kernel_rfl) rfl (QO.load ty29 (by rfl) (by repeat (first | exact List.Mem.head _ | refine List.Mem.tail _ ?_)) (by assumption)) ?_)
              refine RT2.take1 (i := 2) rfl (by kernel_rfl) rfl (QO.fieldAddr fo61_1 (by rfl)) ?_
              first | (refine RT2.take1 (i := 3) rfl (by kernel_rfl) rfl (QO.load ty29 (by rfl) (by repeat (first | exact List.Mem.head _ | refine List.Mem.tail _ ?_)) (by rfl)) ?_) | (refine RT2.take1 (i := 3) rfl (by kernel_rfl) rfl (QO.loadO ty29 (by rfl) (by assumption)) ?_) | (refine RT2.take1 (i := 3) rfl (by kernel_rfl) rfl (QO.load ty29 (by rfl) (by repeat (first | exact List.Mem.head _ | refine List.Mem.tail _ ?_)) (by assumption)) ?_)
              refine RT2.take1 (i := 4) rfl (by kernel_rfl) rfl (QO.move) ?_
              refine RT2.take1 (i := 6) rfl (by kernel_rfl) rfl (QO.fieldAddr fo61_2 (by rfl)) ?_
              first | (refine RT2.take1 (i := 7) rfl (by kernel_rfl) rfl (QO.load ty29 (by rfl) (by repeat (first | exact List.Mem.head _ | refine List.Mem.tail _ ?_)) (by rfl)) ?_) | (refine RT2.take1 (i := 7) rfl (by kernel_rfl) rfl (QO.loadO ty29 (by rfl) (by assumption)) ?_) | (refine RT2.take1 (i := 7) rfl (by kernel_rfl) rfl (QO.load ty29 (by rfl) (by repeat (first | exact List.Mem.head _ | refine List.Mem.tail _ ?_)) (by assumption)) ?_)
              refine RT2.take2 (i := 8) rfl (by kernel_rfl) rfl (QO.fieldAddr fo61_2 (by rfl)) ?_
              first | (refine RT2.take2 (i := 9) rfl (by kernel_rfl) rfl (QO.load ty29 (by rfl) (by repeat (first | exact List.Mem.head _ | refine List.Mem.tail _ ?_)) (by rfl)) ?_) | (refine RT2.take2 (i := 9) rfl (by kernel_rfl) rfl (QO.loadO ty29 (by rfl) (by assumption)) ?_) | (refine RT2.take2 (i := 9) rfl (by kernel_rfl) rfl (QO.load ty29 (by rfl) (by repeat (first | exact List.Mem.head _ | refine List.Mem.tail _ ?_)) (by assumption)) ?_)
              refine RT2.take2 (i := 10) rfl (by kernel_rfl) rfl (QO.move) ?_
              refine RT2.one (i := 5) (by kernel_rfl) rfl ?_
              refine RS.call rfl (by rfl) ok72 (by rfl) (fun w ho => lerp _ _ _ _) ?_
              rintro _ _ ⟨rfl, rfl⟩
              refine RS.nil ⟨(by repeat (first | exact List.Sublist.refl _ | exact List.nil_sublist _ | refine List.Sublist.cons_cons _ ?_ | refine List.Sublist.cons _ ?_ | exact Sbp.refl | exact Sbp.nil | refine Sbp.cons (by repeat (first | exact Rem.head | apply Rem.tail)) ?_ | exact Sbp.app | refine Sbp.skip ?_)), (by repeat (first | exact List.Sublist.refl _ | exact List.nil_sublist _ | refine List.Sublist.cons_cons _ ?_ | refine List.Sublist.cons _ ?_ | exact Sbp.refl | exact Sbp.nil | refine Sbp.cons (by repeat (first | exact Rem.head | apply Rem.tail)) ?_ | exact Sbp.app | refine Sbp.skip ?_)), ?_⟩
              refine RT2.take1 (i := 12) rfl (by kernel_rfl) rfl (QO.fieldAddr fo61_1 (by rfl)) ?_
              refine RT2.one (i := 11) (by kernel_rfl) rfl ?_
              refine RS.call rfl (by rfl) ok72 (by rfl) (fun w ho => lerp _ _ _ _) ?_
              rintro _ _ ⟨rfl, rfl⟩
              refine RS.nil ⟨(by repeat (first | exact List.Sublist.refl _ | exact List.nil_sublist _ | refine List.Sublist.cons_cons _ ?_ | refine List.Sublist.cons _ ?_ | exact Sbp.refl | exact Sbp.nil | refine Sbp.cons (by repeat (first | exact Rem.head | apply Rem.tail)) ?_ | exact Sbp.app | refine Sbp.skip ?_)), (by repeat (first | exact List.Sublist.refl _ | exact List.nil_sublist _ | refine List.Sublist.cons_cons _ ?_ | refine List.Sublist.cons _ ?_ | exact Sbp.refl | exact Sbp.nil | refine Sbp.cons (by repeat (first | exact Rem.head | apply Rem.tail)) ?_ | exact Sbp.app | refine Sbp.skip ?_)), ?_⟩
              refine RT2.oneX (i := 13) (by kernel_rfl) rfl (by kernel_rfl) ?_
              refine RS.store1 ty29 rfl (by rfl) (by rfl) (by rfl) (by repeat (first | exact Upd.head | apply Upd.tail)) (by first | (simp; done) | (simp; omega) | omega) ?_
              refine RS.nil ⟨(by repeat (first | exact List.Sublist.refl _ | exact List.nil_sublist _ | refine List.Sublist.cons_cons _ ?_ | refine List.Sublist.cons _ ?_ | exact Sbp.refl | exact Sbp.nil | refine Sbp.cons (by repeat (first | exact Rem.head | apply Rem.tail)) ?_ | exact Sbp.app | refine Sbp.skip ?_)), ?_⟩
              refine RT2.take2 (i := 14) rfl (by kernel_rfl) rfl (QO.fieldAddr fo61_2 (by rfl)) ?_
              refine RT2.oneX (i := 15) (by kernel_rfl) rfl (by kernel_rfl) ?_
              refine RS.store1 ty29 rfl (by rfl) (by rfl) (by rfl) (by repeat (first | exact Upd.head | apply Upd.tail)) (by first | (simp; done) | (simp; omega) | omega) ?_
              refine RS.nil ⟨(by repeat (first | exact List.Sublist.refl _ | exact List.nil_sublist _ | refine List.Sublist.cons_cons _ ?_ | refine List.Sublist.cons _ ?_ | exact Sbp.refl | exact Sbp.nil | refine Sbp.cons (by repeat (first | exact Rem.head | apply Rem.tail)) ?_ | exact Sbp.app | refine Sbp.skip ?_)), ?_⟩
              refine RT2.done (by kernel_rfl) ?_
              refine thenC_n ?_
              refine CS.seq ?_
              refine CS.draw2 [13, 15] (HT := [⟨g12, 61, winC kb.win kb.A kb.c⟩, ⟨gp, 31, psC ka.win.pts ++ jk⟩, ⟨g9, 67, kfC kb⟩, ⟨g8, 67, kfC ka⟩, ⟨g4, 61, [iv 0, flt 0, flt 0, flt 0, flt 0, flt 0, .slice none 0 0, .bool false]⟩]) (by repeat (first | exact List.Sublist.refl _ | exact List.nil_sublist _ | refine List.Sublist.cons_cons _ ?_ | refine List.Sublist.cons _ ?_ | exact Sbp.refl | exact Sbp.nil | refine Sbp.cons (by repeat (first | exact Rem.head | apply Rem.tail)) ?_ | exact Sbp.app | refine Sbp.skip ?_)) rfl (by kernel_rfl) ?_
              refine RT2.take1 (i := 0) rfl (by kernel_rfl) rfl (QO.fieldAddr fo61_3 (by rfl)) ?_
              first | (refine RT2.take1 (i := 1) rfl (by kernel_rfl) rfl (QO.load ty29 (by rfl) (by repeat (first | exact List.Mem.head _ | refine List.Mem.tail _ ?_)) (by rfl)) ?_) | (refine RT2.take1 (i := 1) rfl (by kernel_rfl) rfl (QO.loadO ty29 (by rfl) (by assumption)) ?_) | (refine RT2.take1 (i := 1) rfl (by kernel_rfl) rfl (QO.load ty29 (by rfl) (by repeat (first | exact List.Mem.head _ | refine List.Mem.tail _ ?_)) (by assumption)) ?_)
              refine RT2.take1 (i := 2) rfl (by kernel_rfl) rfl (QO.fieldAddr fo61_3 (by rfl)) ?_
              first | (refine RT2.take1 (i := 3) rfl (by kernel_rfl) rfl (QO.load ty29 (by rfl) (by repeat (first | exact List.Mem.head _ | refine List.Mem.tail _ ?_)) (by rfl)) ?_) | (refine RT2.take1 (i := 3) rfl (by kernel_rfl) rfl (QO.loadO ty29 (by rfl) (by assumption)) ?_) | (refine RT2.take1 (i := 3) rfl (by kernel_rfl) rfl (QO.load ty29 (by rfl) (by repeat (first | exact List.Mem.head _ | refine List.Mem.tail _ ?_)) (by assumption)) ?_)
              refine RT2.take1 (i := 4) rfl (by kernel_rfl) rfl (QO.move) ?_
              refine RT2.take1 (i := 6) rfl (by kernel_rfl) rfl (QO.fieldAddr fo61_4 (by rfl)) ?_
              first | (refine RT2.take1 (i := 7) rfl (by kernel_rfl) rfl (QO.load ty29 (by rfl) (by repeat (first | exact List.Mem.head _ | refine List.Mem.tail _ ?_)) (by rfl)) ?_) | (refine RT2.take1 (i := 7) rfl (by kernel_rfl) rfl (QO.loadO ty29 (by rfl) (by assumption)) ?_) | (refine RT2.take1 (i := 7) rfl (by kernel_rfl) rfl (QO.load ty29 (by rfl) (by repeat (first | exact List.Mem.head _ | refine List.Mem.tail _ ?_)) (by assumption)) ?_)
              refine RT2.take2 (i := 8) rfl (by kernel_rfl) rfl (QO.fieldAddr fo61_4 (by rfl)) ?_
              first | (refine RT2.take2 (i := 9) rfl (by kernel_rfl) rfl (QO.load ty29 (by rfl) (by repeat (first | exact List.Mem.head _ | refine List.Mem.tail _ ?_)) (by rfl)) ?_) | (refine RT2.take2 (i := 9) rfl (by kernel_rfl) rfl (QO.loadO ty29 (by rfl) (by assumption)) ?_) | (refine RT2.take2 (i := 9) rfl (by kernel_rfl) rfl (QO.load ty29 (by rfl) (by repeat (first | exact List.Mem.head _ | refine List.Mem.tail _ ?_)) (by assumption)) ?_)
              refine RT2.take2 (i := 10) rfl (by kernel_rfl) rfl (QO.move) ?_
              refine RT2.one (i := 5) (by kernel_rfl) rfl ?_
              refine RS.call rfl (by rfl) ok72 (by rfl) (fun w ho => lerp _ _ _ _) ?_
              rintro _ _ ⟨rfl, rfl⟩
              refine RS.nil ⟨(by repeat (first | exact List.Sublist.refl _ | exact List.nil_sublist _ | refine List.Sublist.cons_cons _ ?_ | refine List.Sublist.cons _ ?_ | exact Sbp.refl | exact Sbp.nil | refine Sbp.cons (by repeat (first | exact Rem.head | apply Rem.tail)) ?_ | exact Sbp.app | refine Sbp.skip ?_)), (by repeat (first | exact List.Sublist.refl _ | exact List.nil_sublist _ | refine List.Sublist.cons_cons _ ?_ | refine List.Sublist.cons _ ?_ | exact Sbp.refl | exact Sbp.nil | refine Sbp.cons (by repeat (first | exact Rem.head | apply Rem.tail)) ?_ | exact Sbp.app | refine Sbp.skip ?_)), ?_⟩
              refine RT2.take1 (i := 12) rfl (by kernel_rfl) rfl (QO.fieldAddr fo61_3 (by rfl)) ?_
              refine RT2.one (i := 11) (by kernel_rfl) rfl ?_
              refine RS.call rfl (by rfl) ok72 (by rfl) (fun w ho => lerp _ _ _ _) ?_
              rintro _ _ ⟨rfl, rfl⟩
              refine RS.nil ⟨(by repeat (first | exact List.Sublist.refl _ | exact List.nil_sublist _ | refine List.Sublist.cons_cons _ ?_ | refine List.Sublist.cons _ ?_ | exact Sbp.refl | exact Sbp.nil | refine Sbp.cons (by repeat (first | exact Rem.head | apply Rem.tail)) ?_ | exact Sbp.app | refine Sbp.skip ?_)), (by repeat (first | exact List.Sublist.refl _ | exact List.nil_sublist _ | refine List.Sublist.cons_cons _ ?_ | refine List.Sublist.cons _ ?_ | exact Sbp.refl | exact Sbp.nil | refine Sbp.cons (by repeat (first | exact Rem.head | apply Rem.tail)) ?_ | exact Sbp.app | refine Sbp.skip ?_)), ?_⟩
              refine RT2.oneX (i := 13) (by kernel_rfl) rfl (by kernel_rfl) ?_
              refine RS.store1 ty29 rfl (by rfl) (by rfl) (by rfl) (by repeat (first | exact Upd.head | apply Upd.tail)) (by first | (simp; done) | (simp; omega) | omega) ?_
              refine RS.nil ⟨(by repeat (first | exact List.Sublist.refl _ | exact List.nil_sublist _ | refine List.Sublist.cons_cons _ ?_ | refine List.Sublist.cons _ ?_ | exact Sbp.refl | exact Sbp.nil | refine Sbp.cons (by repeat (first | exact Rem.head | apply Rem.tail)) ?_ | exact Sbp.app | refine Sbp.skip ?_)), ?_⟩
              refine RT2.take2 (i := 14) rfl (by kernel_rfl) rfl (QO.fieldAddr fo61_4 (by rfl)) ?_
              refine RT2.oneX (i := 15) (by kernel_rfl) rfl (by kernel_rfl) ?_
              refine RS.store1 ty29 rfl (by rfl) (by rfl) (by rfl) (by repeat (first | exact Upd.head | apply Upd.tail)) (by first | (simp; done) | (simp; omega) | omega) ?_
              refine RS.nil ⟨(by repeat (first | exact List.Sublist.refl _ | exact List.nil_sublist _ | refine List.Sublist.cons_cons _ ?_ | refine List.Sublist.cons _ ?_ | exact Sbp.refl | exact Sbp.nil | refine Sbp.cons (by repeat (first | exact Rem.head | apply Rem.tail)) ?_ | exact Sbp.app | refine Sbp.skip ?_)), ?_⟩
              refine RT2.done (by kernel_rfl) ?_
              refine thenC_n ?_
              refine CS.seq ?_
              refine CS.region ?_
              refine RS.q rfl (QO.fieldAddr fo61_5 (by rfl)) ?_
              first | (refine RS.q rfl (QO.load ty29 (by rfl) (by repeat (first | exact List.Mem.head _ | refine List.Mem.tail _ ?_)) (by rfl)) ?_) | (refine RS.q rfl (QO.loadO ty29 (by rfl) (by assumption)) ?_) | (refine RS.q rfl (QO.load ty29 (by rfl) (by repeat (first | exact List.Mem.head _ | refine List.Mem.tail _ ?_)) (by assumption)) ?_)
              refine RS.q rfl (QO.fieldAddr fo61_5 (by rfl)) ?_
              first | (refine RS.q rfl (QO.load ty29 (by rfl) (by repeat (first | exact List.Mem.head _ | refine List.Mem.tail _ ?_)) (by rfl)) ?_) | (refine RS.q rfl (QO.loadO ty29 (by rfl) (by assumption)) ?_) | (refine RS.q rfl (QO.load ty29 (by rfl) (by repeat (first | exact List.Mem.head _ | refine List.Mem.tail _ ?_)) (by assumption)) ?_)
              refine RS.q rfl (QO.move) ?_
              refine RS.call rfl (by rfl) ok72 (by rfl) (fun w ho => lerp _ _ _ _) ?_
              rintro _ _ ⟨rfl, rfl⟩
              refine RS.q rfl (QO.fieldAddr fo61_5 (by rfl)) ?_
              refine RS.store1 ty29 rfl (by rfl) (by rfl) (by rfl) (by repeat (first | exact Upd.head | apply Upd.tail)) (by first | (simp; done) | (simp; omega) | omega) ?_
              refine RS.nil ?_
              refine thenC_n ?_
              refine CS.seq ?_
              refine CS.seq ?_
              refine CS.region ?_
              refine RS.q rfl (QO.fieldAddr fo61_6 (by rfl)) ?_
              first | (refine RS.q rfl (QO.load ty59 (by rfl) (by repeat (first | exact List.Mem.head _ | refine List.Mem.tail _ ?_)) (by rfl)) ?_) | (refine RS.q rfl (QO.loadO ty59 (by rfl) (by assumption)) ?_) | (refine RS.q rfl (QO.load ty59 (by rfl) (by repeat (first | exact List.Mem.head _ | refine List.Mem.tail _ ?_)) (by assumption)) ?_)
              refine RS.q rfl (QO.lenS Try.underlying59 (by rfl)) ?_
              refine RS.q rfl (QO.move) ?_
              refine RS.nil ?_
              refine thenC_n ?_
              refine CS.block ?_
              refine CS.loop (X := Nat) (13 :: 14 :: 128 :: 129 :: 130 :: 131 :: 132 :: 133 :: 134 :: 135 :: 136 :: 137 :: 138 :: 139 :: 140 :: 141 :: 142 :: 143 :: 144 :: 145 :: 146 :: 147 :: 148 :: 149 :: 150 :: 151 :: 152 :: 153 :: 154 :: 155 :: 156 :: 157 :: 158 :: 159 :: 160 :: 161 :: 162 :: 163 :: 164 :: 165 :: 166 :: 167 :: 168 :: 169 :: 170 :: 171 :: 172 :: 173 :: 174 :: 175 :: 176 :: 177 :: 178 :: 179 :: []) (fun k => [(128, iv (k : Int))]) (fun k => [⟨g12, 61, winC kb.win kb.A kb.c⟩, ⟨g11, 61, [iv ka.win.kind, flt (lerpV ka.win.x kb.win.x tt), flt (lerpV ka.win.y kb.win.y tt), flt (lerpV ka.win.w kb.win.w tt), flt (lerpV ka.win.h kb.win.h tt), flt (lerpV ka.win.soft kb.win.soft tt), .slice (some ⟨gp, 0, none⟩) ka.win.pts.length cp, .bool ka.win.out]⟩, ⟨gp, 31, psC (mixPs ka.win.pts kb.win.pts tt k) ++ jk⟩, ⟨g9, 67, kfC kb⟩, ⟨g8, 67, kfC ka⟩, ⟨g4, 61, [iv 0, flt 0, flt 0, flt 0, flt 0, flt 0, .slice none 0 0, .bool false]⟩]) (fun k => k ≤ ka.win.pts.length) (fun k => ka.win.pts.length - k) 0 (Nat.zero_le _) ?_ ?_ ?_
              · exact (by repeat (first | exact kn_nil | refine kn_cons (by rfl) ?_))
              · exact (by rw [mixPs_0]; exact (by repeat (first | exact List.Sublist.refl _ | exact List.nil_sublist _ | refine List.Sublist.cons_cons _ ?_ | refine List.Sublist.cons _ ?_ | exact Sbp.refl | exact Sbp.nil | refine Sbp.cons (by repeat (first | exact Rem.head | apply Rem.tail)) ?_ | exact Sbp.app | refine Sbp.skip ?_)))
              · intro k gj25 hz
                refine CS.seq ?_
                refine CS.region ?_
                refine RS.q rfl (QO.lss (by rfl) (by rfl)) ?_
                refine RS.nil ?_
                refine thenC_n ?_
                refine CS.seq ?_
                refine CS.cond (by rfl) (fun hb7 => ?_) (fun hb7 => ?_)
                · have hb7p := of_decide_eq_true hb7
                  refine CS.skip ?_
                  refine thenC_n ?_
                  refine CS.seq ?_
                  refine CS.block ?_
                  refine CS.seq ?_
                  refine CS.region ?_
                  refine RS.q rfl (QO.move) ?_
                  refine RS.q rfl (QO.assign) ?_
                  refine RS.nil ?_
                  refine thenC_n ?_
                  refine CS.seq ?_
                  refine CS.region ?_
                  have hxB := hokb.1.isS (show 0 < kb.win.pts.length by omega)
                  obtain ⟨bB, oB, hB⟩ := hxB
                  have hx0 := PS.cell_ hokb.1 hB (i := k) (j := 0) (q := oB + (k : Int).toNat * 2 + 0) (by omega) (by omega) rfl
                  have hx1 := PS.cell_ hokb.1 hB (i := k) (j := 1) (q := oB + (k : Int).toNat * 2 + 1) (by omega) (by omega) rfl
                  refine RS.q rfl (QO.fieldAddr fo61_6 (by rfl)) ?_
                  first | (refine RS.q rfl (QO.load ty59 (by rfl) (by repeat (first | exact List.Mem.head _ | refine List.Mem.tail _ ?_)) (by rfl)) ?_) | (refine RS.q rfl (QO.loadO ty59 (by rfl) (by assumption)) ?_) | (refine RS.q rfl (QO.load ty59 (by rfl) (by repeat (first | exact List.Mem.head _ | refine List.Mem.tail _ ?_)) (by assumption)) ?_)
                  refine RS.q rfl (QO.move) ?_
                  refine RS.qv rfl (QO.idx Try.underlying59 ty31 (by rfl) (by rfl) (by omega) (by omega)) (congrArg (fun o => Value.pointer (some ⟨gp, o, none⟩)) (show 0 + (k : Int).toNat * 2 = k * 2 by rw [Int.toNat_natCast]; omega)) ?_
                  refine RS.q rfl (QO.assign) ?_
                  refine RS.nil ?_
                  refine thenC_n ?_
                  refine CS.seq ?_
                  refine CS.draw2 [22] (HT := [⟨g12, 61, winC kb.win kb.A kb.c⟩, ⟨g11, 61, [iv ka.win.kind, flt (lerpV ka.win.x kb.win.x tt), flt (lerpV ka.win.y kb.win.y tt), flt (lerpV ka.win.w kb.win.w tt), flt (lerpV ka.win.h kb.win.h tt), flt (lerpV ka.win.soft kb.win.soft tt), .slice (some ⟨gp, 0, none⟩) ka.win.pts.length cp, .bool ka.win.out]⟩, ⟨g9, 67, kfC kb⟩, ⟨g8, 67, kfC ka⟩, ⟨g4, 61, [iv 0, flt 0, flt 0, flt 0, flt 0, flt 0, .slice none 0 0, .bool false]⟩]) (by repeat (first | exact List.Sublist.refl _ | exact List.nil_sublist _ | refine List.Sublist.cons_cons _ ?_ | refine List.Sublist.cons _ ?_ | exact Sbp.refl | exact Sbp.nil | refine Sbp.cons (by repeat (first | exact Rem.head | apply Rem.tail)) ?_ | exact Sbp.app | refine Sbp.skip ?_)) rfl (by kernel_rfl) ?_
                  refine RT2.take1 (i := 0) rfl (by kernel_rfl) rfl (QO.move) ?_
                  refine RT2.take1 (i := 1) rfl (by kernel_rfl) rfl (QO.move) ?_
                  refine RT2.take1 (i := 2) rfl (by kernel_rfl) rfl (QO.nilchk (by rfl)) ?_
                  refine RT2.take1 (i := 3) rfl (by kernel_rfl) rfl (QO.fieldAddr fo31_0 (by rfl)) ?_
                  refine RT2.take1 (i := 4) rfl (by kernel_rfl) rfl (QO.load ty3 (by rfl) (by repeat (first | exact List.Mem.head _ | refine List.Mem.tail _ ?_)) (mix_x (show k < ka.win.pts.length by omega))) ?_
                  refine RT2.take1 (i := 5) rfl (by kernel_rfl) rfl (QO.conv_i64_f32 Try.underlying3 Try.underlying29 (by rfl)) ?_
                  refine RT2.take1 (i := 6) rfl (by kernel_rfl) rfl (QO.fieldAddr fo61_6 (by rfl)) ?_
                  first | (refine RT2.take1 (i := 7) rfl (by kernel_rfl) rfl (QO.load ty59 (by rfl) (by repeat (first | exact List.Mem.head _ | refine List.Mem.tail _ ?_)) (by rfl)) ?_) | (refine RT2.take1 (i := 7) rfl (by kernel_rfl) rfl (QO.loadO ty59 (by rfl) (by assumption)) ?_) | (refine RT2.take1 (i := 7) rfl (by kernel_rfl) rfl (QO.load ty59 (by rfl) (by repeat (first | exact List.Mem.head _ | refine List.Mem.tail _ ?_)) (by assumption)) ?_)
                  refine RT2.take1 (i := 8) rfl (by kernel_rfl) rfl (QO.move) ?_
                  refine RT2.take1 (i := 9) rfl (by kernel_rfl) rfl (QO.idx Try.underlying59 ty31 (congrArg (fun A => Value.slice A kb.win.pts.length kb.c) hB) (by rfl) (by omega) (by omega)) ?_
                  refine RT2.take1 (i := 10) rfl (by kernel_rfl) rfl (QO.fieldAddr fo31_0 (by rfl)) ?_
                  refine RT2.take1 (i := 11) rfl (by kernel_rfl) rfl (QO.loadO ty3 (by rfl) hx0) ?_
                  refine RT2.take1 (i := 12) rfl (by kernel_rfl) rfl (QO.conv_i64_f32 Try.underlying3 Try.underlying29 (by rfl)) ?_
                  refine RT2.take1 (i := 13) rfl (by kernel_rfl) rfl (QO.move) ?_
                  refine RT2.one (i := 14) (by kernel_rfl) rfl ?_
                  refine RS.call rfl (by rfl) ok72 (by rfl) (fun w ho => lerp _ _ _ _) ?_
                  rintro _ _ ⟨rfl, rfl⟩
                  refine RS.nil ⟨(by repeat (first | exact List.Sublist.refl _ | exact List.nil_sublist _ | refine List.Sublist.cons_cons _ ?_ | refine List.Sublist.cons _ ?_ | exact Sbp.refl | exact Sbp.nil | refine Sbp.cons (by repeat (first | exact Rem.head | apply Rem.tail)) ?_ | exact Sbp.app | refine Sbp.skip ?_)), (by repeat (first | exact List.Sublist.refl _ | exact List.nil_sublist _ | refine List.Sublist.cons_cons _ ?_ | refine List.Sublist.cons _ ?_ | exact Sbp.refl | exact Sbp.nil | refine Sbp.cons (by repeat (first | exact Rem.head | apply Rem.tail)) ?_ | exact Sbp.app | refine Sbp.skip ?_)), ?_⟩
                  refine RT2.one (i := 15) (by kernel_rfl) rfl ?_
                  refine RS.call rfl (by rfl) ok73 (by rfl) (fun w ho => near_ _ _) ?_
                  rintro _ _ ⟨q151, rfl, rfl⟩
                  refine RS.nil ⟨(by repeat (first | exact List.Sublist.refl _ | exact List.nil_sublist _ | refine List.Sublist.cons_cons _ ?_ | refine List.Sublist.cons _ ?_ | exact Sbp.refl | exact Sbp.nil | refine Sbp.cons (by repeat (first | exact Rem.head | apply Rem.tail)) ?_ | exact Sbp.app | refine Sbp.skip ?_)), (by repeat (first | exact List.Sublist.refl _ | exact List.nil_sublist _ | refine List.Sublist.cons_cons _ ?_ | refine List.Sublist.cons _ ?_ | exact Sbp.refl | exact Sbp.nil | refine Sbp.cons (by repeat (first | exact Rem.head | apply Rem.tail)) ?_ | exact Sbp.app | refine Sbp.skip ?_)), ?_⟩
                  refine RT2.take1 (i := 16) rfl (by kernel_rfl) rfl (QO.move) ?_
                  refine RT2.take1 (i := 17) rfl (by kernel_rfl) rfl (QO.extract (by rfl) (by rfl)) ?_
                  refine RT2.take2 (i := 18) rfl (by kernel_rfl) rfl (QO.extract (by rfl) (by rfl)) ?_
                  refine RT2.take2 (i := 19) rfl (by kernel_rfl) rfl (QO.extract (by rfl) (by rfl)) ?_
                  refine RT2.take2 (i := 20) rfl (by kernel_rfl) rfl (QO.nilchk (by rfl)) ?_
                  refine RT2.take1 (i := 21) rfl (by kernel_rfl) rfl (QO.fieldAddr fo31_0 (by rfl)) ?_
                  refine RT2.oneX (i := 22) (by kernel_rfl) rfl (by kernel_rfl) ?_
                  refine RS.store1e ty3 rfl (by rfl) (by rfl) (by rfl) (mix_sx _ (show k < ka.win.pts.length by omega)) (by repeat (first | exact Upd.head | apply Upd.tail)) (by rw [List.length_append, psC_len, mixPs_len]; omega) ?_
                  refine RS.nil ⟨(by repeat (first | exact List.Sublist.refl _ | exact List.nil_sublist _ | refine List.Sublist.cons_cons _ ?_ | refine List.Sublist.cons _ ?_ | exact Sbp.refl | exact Sbp.nil | refine Sbp.cons (by repeat (first | exact Rem.head | apply Rem.tail)) ?_ | exact Sbp.app | refine Sbp.skip ?_)), ?_⟩
                  refine RT2.done (by kernel_rfl) ?_
                  refine thenC_n ?_
                  refine CS.draw2 [22] (HT := [⟨g12, 61, winC kb.win kb.A kb.c⟩, ⟨g11, 61, [iv ka.win.kind, flt (lerpV ka.win.x kb.win.x tt), flt (lerpV ka.win.y kb.win.y tt), flt (lerpV ka.win.w kb.win.w tt), flt (lerpV ka.win.h kb.win.h tt), flt (lerpV ka.win.soft kb.win.soft tt), .slice (some ⟨gp, 0, none⟩) ka.win.pts.length cp, .bool ka.win.out]⟩, ⟨g9, 67, kfC kb⟩, ⟨g8, 67, kfC ka⟩, ⟨g4, 61, [iv 0, flt 0, flt 0, flt 0, flt 0, flt 0, .slice none 0 0, .bool false]⟩]) (by repeat (first | exact List.Sublist.refl _ | exact List.nil_sublist _ | refine List.Sublist.cons_cons _ ?_ | refine List.Sublist.cons _ ?_ | exact Sbp.refl | exact Sbp.nil | refine Sbp.cons (by repeat (first | exact Rem.head | apply Rem.tail)) ?_ | exact Sbp.app | refine Sbp.skip ?_)) rfl (by kernel_rfl) ?_
                  refine RT2.take1 (i := 0) rfl (by kernel_rfl) rfl (QO.move) ?_
                  refine RT2.take1 (i := 1) rfl (by kernel_rfl) rfl (QO.move) ?_
                  refine RT2.take1 (i := 2) rfl (by kernel_rfl) rfl (QO.nilchk (by rfl)) ?_
                  refine RT2.take1 (i := 3) rfl (by kernel_rfl) rfl (QO.fieldAddr fo31_1 (by rfl)) ?_
                  refine RT2.take1 (i := 4) rfl (by kernel_rfl) rfl (QO.load ty3 (by rfl) (by repeat (first | exact List.Mem.head _ | refine List.Mem.tail _ ?_)) (mix_y _ (show k < ka.win.pts.length by omega))) ?_
                  refine RT2.take1 (i := 5) rfl (by kernel_rfl) rfl (QO.conv_i64_f32 Try.underlying3 Try.underlying29 (by rfl)) ?_
                  refine RT2.take1 (i := 6) rfl (by kernel_rfl) rfl (QO.fieldAddr fo61_6 (by rfl)) ?_
                  first | (refine RT2.take1 (i := 7) rfl (by kernel_rfl) rfl (QO.load ty59 (by rfl) (by repeat (first | exact List.Mem.head _ | refine List.Mem.tail _ ?_)) (by rfl)) ?_) | (refine RT2.take1 (i := 7) rfl (by kernel_rfl) rfl (QO.loadO ty59 (by rfl) (by assumption)) ?_) | (refine RT2.take1 (i := 7) rfl (by kernel_rfl) rfl (QO.load ty59 (by rfl) (by repeat (first | exact List.Mem.head _ | refine List.Mem.tail _ ?_)) (by assumption)) ?_)
                  refine RT2.take1 (i := 8) rfl (by kernel_rfl) rfl (QO.move) ?_
                  refine RT2.take1 (i := 9) rfl (by kernel_rfl) rfl (QO.idx Try.underlying59 ty31 (congrArg (fun A => Value.slice A kb.win.pts.length kb.c) hB) (by rfl) (by omega) (by omega)) ?_
                  refine RT2.take1 (i := 10) rfl (by kernel_rfl) rfl (QO.fieldAddr fo31_1 (by rfl)) ?_
                  refine RT2.take1 (i := 11) rfl (by kernel_rfl) rfl (QO.loadO ty3 (by rfl) hx1) ?_
                  refine RT2.take1 (i := 12) rfl (by kernel_rfl) rfl (QO.conv_i64_f32 Try.underlying3 Try.underlying29 (by rfl)) ?_
                  refine RT2.take1 (i := 13) rfl (by kernel_rfl) rfl (QO.move) ?_
                  refine RT2.one (i := 14) (by kernel_rfl) rfl ?_
                  refine RS.call rfl (by rfl) ok72 (by rfl) (fun w ho => lerp _ _ _ _) ?_
                  rintro _ _ ⟨rfl, rfl⟩
                  refine RS.nil ⟨(by repeat (first | exact List.Sublist.refl _ | exact List.nil_sublist _ | refine List.Sublist.cons_cons _ ?_ | refine List.Sublist.cons _ ?_ | exact Sbp.refl | exact Sbp.nil | refine Sbp.cons (by repeat (first | exact Rem.head | apply Rem.tail)) ?_ | exact Sbp.app | refine Sbp.skip ?_)), (by repeat (first | exact List.Sublist.refl _ | exact List.nil_sublist _ | refine List.Sublist.cons_cons _ ?_ | refine List.Sublist.cons _ ?_ | exact Sbp.refl | exact Sbp.nil | refine Sbp.cons (by repeat (first | exact Rem.head | apply Rem.tail)) ?_ | exact Sbp.app | refine Sbp.skip ?_)), ?_⟩
                  refine RT2.one (i := 15) (by kernel_rfl) rfl ?_
                  refine RS.call rfl (by rfl) ok73 (by rfl) (fun w ho => near_ _ _) ?_
                  rintro _ _ ⟨q173, rfl, rfl⟩
                  refine RS.nil ⟨(by repeat (first | exact List.Sublist.refl _ | exact List.nil_sublist _ | refine List.Sublist.cons_cons _ ?_ | refine List.Sublist.cons _ ?_ | exact Sbp.refl | exact Sbp.nil | refine Sbp.cons (by repeat (first | exact Rem.head | apply Rem.tail)) ?_ | exact Sbp.app | refine Sbp.skip ?_)), (by repeat (first | exact List.Sublist.refl _ | exact List.nil_sublist _ | refine List.Sublist.cons_cons _ ?_ | refine List.Sublist.cons _ ?_ | exact Sbp.refl | exact Sbp.nil | refine Sbp.cons (by repeat (first | exact Rem.head | apply Rem.tail)) ?_ | exact Sbp.app | refine Sbp.skip ?_)), ?_⟩
                  refine RT2.take1 (i := 16) rfl (by kernel_rfl) rfl (QO.move) ?_
                  refine RT2.take1 (i := 17) rfl (by kernel_rfl) rfl (QO.extract (by rfl) (by rfl)) ?_
                  refine RT2.take2 (i := 18) rfl (by kernel_rfl) rfl (QO.extract (by rfl) (by rfl)) ?_
                  refine RT2.take2 (i := 19) rfl (by kernel_rfl) rfl (QO.extract (by rfl) (by rfl)) ?_
                  refine RT2.take2 (i := 20) rfl (by kernel_rfl) rfl (QO.nilchk (by rfl)) ?_
                  refine RT2.take1 (i := 21) rfl (by kernel_rfl) rfl (QO.fieldAddr fo31_1 (by rfl)) ?_
                  refine RT2.oneX (i := 22) (by kernel_rfl) rfl (by kernel_rfl) ?_
                  refine RS.store1e ty3 rfl (by rfl) (by rfl) (by rfl) (mix_sy (show k < ka.win.pts.length by omega)) (by repeat (first | exact Upd.head | apply Upd.tail)) (by rw [List.length_append, psC_len, ptx_len, mixPs_len]; omega) ?_
                  refine RS.nil ⟨(by repeat (first | exact List.Sublist.refl _ | exact List.nil_sublist _ | refine List.Sublist.cons_cons _ ?_ | refine List.Sublist.cons _ ?_ | exact Sbp.refl | exact Sbp.nil | refine Sbp.cons (by repeat (first | exact Rem.head | apply Rem.tail)) ?_ | exact Sbp.app | refine Sbp.skip ?_)), ?_⟩
                  refine RT2.done (by kernel_rfl) ?_
                  refine blockC_n ?_
                  refine thenC_n ?_
                  refine CS.region ?_
                  first | (refine RS.q rfl (QO.add (by rfl) (by rfl) (by omega) (by omega)) ?_) | (refine RS.q rfl (QO.ibin (by rfl) (by rfl) trivial) ?_)
                  refine RS.q rfl (QO.move) ?_
                  refine RS.nil ?_
                  refine loopQ_n (by intro t ht; repeat (first | with_reducible exact rfl | exact frame_puts ht (frame_mix ht) _ rfl | (refine frame_put rfl ht ?_) | (refine frame_puts ht ?_ _ rfl) | exact frame_mix ht | (refine frame_mix2 rfl ht ?_) | exact rfl)) ?_
                  exact ⟨k + 1, by omega, by omega, (by repeat (first | exact kn_nil | refine kn_cons (by rfl) ?_)), (by repeat (first | exact List.Sublist.refl _ | exact List.nil_sublist _ | refine List.Sublist.cons_cons _ ?_ | refine List.Sublist.cons _ ?_ | exact Sbp.refl | exact Sbp.nil | refine Sbp.cons (by repeat (first | exact Rem.head | apply Rem.tail)) ?_ | exact Sbp.app | refine Sbp.skip ?_))⟩
                · have hb7p := of_decide_eq_false hb7
                  refine CS.exit ?_
                  refine thenC_x ?_
                  refine loopQ_x ?_
                  refine blockC_x ?_
                  refine thenC_n ?_
                  refine CS.seq ?_
                  refine CS.region ?_
                  first | (refine RS.q rfl (QO.loadB ty61 (by rfl) (by repeat (first | exact List.Mem.head _ | refine List.Mem.tail _ ?_)) (by rfl)) ?_) | (refine RS.q rfl (QO.loadA ty61 (by rfl) (by repeat (first | exact List.Mem.head _ | refine List.Mem.tail _ ?_)) (by rfl) (by rfl)) ?_) | (refine RS.q rfl (QO.loadOA ty61 (by rfl) (by assumption) (by rfl)) ?_)
                  first | refine RS.storeB ty61 (by rfl) (by rfl) (by rfl) (by rfl) (by rfl) (by repeat (first | exact Upd.head | apply Upd.tail)) (by rfl) ?_ | refine RS.storeP ty61 (by rfl) (by rfl) (by rfl) (by rfl) (by rfl) (by repeat (first | exact Upd.head | apply Upd.tail)) (by rfl) ?_
                  refine RS.q rfl (QO.assign) ?_
                  refine RS.nil ?_
                  refine thenC_n ?_
                  refine CS.ret ?_
                  refine retQ.mk (H' := [⟨gp, 31, psC (mixPs ka.win.pts kb.win.pts tt k) ++ jk⟩]) (.inr rfl) (RVs.cellA ty61 (by rfl) (by repeat (first | exact List.Mem.head _ | refine List.Mem.tail _ ?_)) (by rfl) (RVs.tmp (by rfl) RVs.nil)) (by repeat (first | exact List.Sublist.refl _ | exact List.nil_sublist _ | refine List.Sublist.cons_cons _ ?_ | refine List.Sublist.cons _ ?_ | exact Sbp.refl | exact Sbp.nil | refine Sbp.cons (by repeat (first | exact Rem.head | apply Rem.tail)) ?_ | exact Sbp.app | refine Sbp.skip ?_)) ?_
                  exact ⟨_, _, mixEnd (betw_m hcnt (by omega) (by omega) hka hkb htt), ownMix (betw_m hcnt (by omega) (by omega) hka hkb htt) (by omega)⟩

end Go.Proofs.Ytapcgokcfmklbaa

namespace Go.Proofs.Ytapcgokcfmklbaa
open Go Go.RowKit

section
variable {P : Program} {W : World} {H : HL} {e : Env} {x y : Operand} {t t' ty : TypeId}
/-- adding where there is a sum -/
theorem QO.faddS {i j r : Nat} (hx : ev e x = .float .f32 i) (hy : ev e y = .float .f32 j) (h : fop .add i j = some r) : QO P W H e (.binOp .add t x y t') ty (.float .f32 r) := by
  refine QO.bin hx hy (fun w => ?_)
  have h1 : (eqGuard .add t x y (.float .f32 i) (.float .f32 j)).run P w = .ok () w := by simp [eqGuard]
  have h2 : Ieee.single.add i j = some r := h
  simp only [Sem.run_bind, h1, Result.andThen_ok]
  simp [binOp, Op.floatArith, FloatKind.format, h2]
end
theorem retM {r m : Win} {A : Option Addr} {c n : Nat} {e e2 : Int} (h : r = m) (he : e = e2) (hn : m.pts.length = n) : Value.tuple #[.agg #[iv m.kind, flt m.x, flt m.y, flt m.w, flt m.h, flt m.soft, .slice A n c, .bool m.out], iv e2] = .tuple #[wV r A c, iv e] := by subst h he hn; rfl
theorem retZ {r : Win} {e e2 : Int} (h : r = zeroW) (he : e = e2) : Value.tuple #[.agg #[iv 0, flt 0, flt 0, flt 0, flt 0, flt 0, .slice none 0 0, .bool false], iv e2] = .tuple #[wV r none 0, iv e] := by subst h he; rfl
theorem ownZ {r : Win} {A : Option Addr} {H : HL} (h : r = zeroW) : OwnP A r.pts H := by rw [h]; exact OwnP.nil
/-- a window without points, moved -/
def movNW (u : Win) (dx dy : Int) : Win := ⟨u.kind, addV u.x dx, addV u.y dy, u.w, u.h, u.soft, u.pts, u.out⟩
/-- a window of points, the first k moved -/
def movPW (u : Win) (dx dy : Int) (k : Nat) : Win := ⟨u.kind, u.x, u.y, u.w, u.h, u.soft, movPs u.pts dx dy k, u.out⟩
section
variable {u : Win} {dx dy : Int} {k : Nat}
theorem movN (hp : u.pts = []) (hk : u.kind ≠ 3) : movW u dx dy = movNW u dx dy := by
  unfold movW movNW
  rw [if_pos hk, if_pos hk, hp]; rfl
theorem movPk (hk : u.kind = 3) (h : k = u.pts.length) : movW u dx dy = movPW u dx dy k := by
  unfold movW movPW
  rw [if_neg (by omega), if_neg (by omega), h]
theorem mov_bad {m : Win} (h : winE u = 0) (hx : plcB dx = true) (hy : plcB dy = true) (hm : movW u dx dy = m) (h3 : winE m ≠ 0) : movE u dx dy = winE m ∧ movR u dx dy = zeroW := by
  rw [← hm] at h3 ⊢; exact mov_4 h hx hy h3
theorem mov_ok {m : Win} (h : winE u = 0) (hx : plcB dx = true) (hy : plcB dy = true) (hm : movW u dx dy = m) (h3 : winE m = 0) : movE u dx dy = 0 ∧ movR u dx dy = m := by
  rw [← hm] at h3 ⊢; exact mov_5 h hx hy h3
theorem kind_N (h : winE u = 0) (hp : u.pts = []) : u.kind ≠ 3 := fun hk => by have := (winE_pts h).2.2 hk; rw [hp] at this; simp at this
theorem kind_P (h : winE u = 0) (hp : ¬ u.pts = []) : u.kind = 3 := Decidable.byContradiction fun hk => hp ((winE_pts h).2.1 hk)
theorem ownM {r m : Win} {A : Option Addr} {H : HL} (h : r = m) (hO : OwnP A m.pts H) : OwnP A r.pts H := by rw [h]; exact hO
theorem len_P (hp : ¬ u.pts = []) : 0 < u.pts.length := Nat.pos_of_ne_zero fun h => hp (List.eq_nil_of_length_eq_zero h)
end
end Go.Proofs.Ytapcgokcfmklbaa

namespace Go.Proofs.Ytapcgokcfmklbaa
open Go Go.Proofs Go.RowKit

theorem ok87 : callOK Try.prog 87 = true := by kernel_rfl

theorem checkWindowL (u : Win) (A : Option Addr) (c n : Nat) (W : World) (hn : u.pts.length = n) (hA : PS W A u.pts) (hm : n ≤ maxLen) : Fn_ Try.prog 74 #[.agg #[iv u.kind, flt u.x, flt u.y, flt u.w, flt u.h, flt u.soft, .slice A n c, .bool u.out]] W (fun v H => v = iv (winE u) ∧ H = []) := by
  subst hn; exact checkWindow u A c W hA hm

theorem windowErrorL (u : Win) (A : Option Addr) (c n : Nat) (W : World) (hn : u.pts.length = n) (hA : PS W A u.pts) (hm : n ≤ maxLen) : Fn_ Try.prog 69 #[.agg #[iv u.kind, flt u.x, flt u.y, flt u.w, flt u.h, flt u.soft, .slice A n c, .bool u.out]] W (fun v H => v = iv (winE u) ∧ H = []) := by
  subst hn; exact windowError u A c W hA hm

set_option maxRecDepth 100000 in
theorem moved0 (u : Win) (A : Option Addr) (c : Nat) (dx dy : Int) (W : World) (hA : PS W A u.pts) (hm : u.pts.length ≤ maxLen) (he : winE u ≠ 0) : Fn_ Try.prog 28 #[.agg #[iv u.kind, flt u.x, flt u.y, flt u.w, flt u.h, flt u.soft, .slice A u.pts.length c, .bool u.out], iv dx, iv dy] W (fun v H => ∃ A2 c2, v = .tuple #[wV (movR u dx dy) A2 c2, iv (movE u dx dy)] ∧ OwnP A2 (movR u dx dy).pts H) := by
  refine Fn_.intro Try.func28 rfl rfl (by rfl) ?_
  refine CS.seq ?_
  refine CS.region ?_
  refine RS.box rfl (by rfl) (by rfl) ?_
  intro g3
  refine RS.alloc rfl ty61 ?_
  intro g6
  refine RS.q rfl (QO.assign) ?_
  refine RS.nil ?_
  refine thenC_n ?_
  refine CS.seq ?_
  refine CS.seq ?_
  refine CS.region ?_
  first | (refine RS.q rfl (QO.loadB ty61 (by rfl) (by repeat (first | exact List.Mem.head _ | refine List.Mem.tail _ ?_)) (by rfl)) ?_) | (refine RS.q rfl (QO.loadA ty61 (by rfl) (by repeat (first | exact List.Mem.head _ | refine List.Mem.tail _ ?_)) (by rfl) (by rfl)) ?_) | (refine RS.q rfl (QO.loadOA ty61 (by rfl) (by assumption) (by rfl)) ?_)
  refine RS.call rfl (by rfl) ok74 (by rfl) (fun w ho => checkWindow u A c _ (hA.own ho) hm) ?_
  rintro _ _ ⟨rfl, rfl⟩
  refine RS.q rfl (QO.assign) ?_
  refine RS.nil ?_
  refine thenC_n ?_
  refine CS.seq ?_
  refine CS.region ?_
  refine RS.q rfl (QO.move) ?_
  refine RS.qv rfl (QO.neq (by rfl) (by rfl)) (congrArg Value.bool (show (winE u != 0) = true from bne_iff_ne.2 he)) ?_
  refine RS.nil ?_
  refine thenC_n ?_
  refine CS.condT (by rfl) rfl ?_
  refine CS.seq ?_
  refine CS.region ?_
  refine RS.q rfl (QO.build ty61 pl61 (by rfl)) ?_
  refine RS.q rfl (QO.move) ?_
  first | refine RS.storeB ty61 (by rfl) (by rfl) (by rfl) (by rfl) (by rfl) (by repeat (first | exact Upd.head | apply Upd.tail)) (by rfl) ?_ | refine RS.storeP ty61 (by rfl) (by rfl) (by rfl) (by rfl) (by rfl) (by repeat (first | exact Upd.head | apply Upd.tail)) (by rfl) ?_
  refine RS.q rfl (QO.assign) ?_
  refine RS.nil ?_
  refine thenC_n ?_
  refine CS.ret ?_
  refine thenC_r ?_
  refine retQ.mk (H' := []) (.inr rfl) (RVs.cellA ty61 (by rfl) (by repeat (first | exact List.Mem.head _ | refine List.Mem.tail _ ?_)) (by rfl) (RVs.tmp (by rfl) RVs.nil)) (List.nil_sublist _) ?_
  exact ⟨none, 0, retZ (mov_1 he).2 (mov_1 he).1, ownZ (mov_1 he).2⟩

set_option maxRecDepth 100000 in
theorem moved1 (u : Win) (A : Option Addr) (c : Nat) (dx dy : Int) (W : World) (hA : PS W A u.pts) (hm : u.pts.length ≤ maxLen) (he : winE u = 0) (hx : plcB dx = false) : Fn_ Try.prog 28 #[.agg #[iv u.kind, flt u.x, flt u.y, flt u.w, flt u.h, flt u.soft, .slice A u.pts.length c, .bool u.out], iv dx, iv dy] W (fun v H => ∃ A2 c2, v = .tuple #[wV (movR u dx dy) A2 c2, iv (movE u dx dy)] ∧ OwnP A2 (movR u dx dy).pts H) := by
  refine Fn_.intro Try.func28 rfl rfl (by rfl) ?_
  refine CS.seq ?_
  refine CS.region ?_
  refine RS.box rfl (by rfl) (by rfl) ?_
  intro g3
  refine RS.alloc rfl ty61 ?_
  intro g6
  refine RS.q rfl (QO.assign) ?_
  refine RS.nil ?_
  refine thenC_n ?_
  refine CS.seq ?_
  refine CS.seq ?_
  refine CS.region ?_
  first | (refine RS.q rfl (QO.loadB ty61 (by rfl) (by repeat (first | exact List.Mem.head _ | refine List.Mem.tail _ ?_)) (by rfl)) ?_) | (refine RS.q rfl (QO.loadA ty61 (by rfl) (by repeat (first | exact List.Mem.head _ | refine List.Mem.tail _ ?_)) (by rfl) (by rfl)) ?_) | (refine RS.q rfl (QO.loadOA ty61 (by rfl) (by assumption) (by rfl)) ?_)
  refine RS.call rfl (by rfl) ok74 (by rfl) (fun w ho => checkWindow u A c _ (hA.own ho) hm) ?_
  rintro _ _ ⟨rfl, rfl⟩
  refine RS.q rfl (QO.assign) ?_
  refine RS.nil ?_
  refine thenC_n ?_
  refine CS.seq ?_
  refine CS.region ?_
  refine RS.q rfl (QO.move) ?_
  refine RS.qv rfl (QO.neq (by rfl) (by rfl)) (congrArg Value.bool (show (winE u != 0) = false from by rw [he]; rfl)) ?_
  refine RS.nil ?_
  refine thenC_n ?_
  refine CS.condF (by rfl) rfl ?_
  refine CS.skip ?_
  refine thenC_n ?_
  refine CS.seq ?_
  refine CS.seq ?_
  refine CS.region ?_
  refine RS.q rfl (QO.move) ?_
  refine RS.call rfl (by rfl) ok85 (by rfl) (fun w ho => placed dx _) ?_
  rintro _ _ ⟨rfl, rfl⟩
  refine RS.qv rfl (QO.not (by rfl)) (congrArg Value.bool (show (!plcB dx) = true by rw [hx]; rfl)) ?_
  refine RS.q rfl (QO.move) ?_
  refine RS.off (dj := 20) rfl (.inl (congrArg Value.bool rfl)) (fun _ => rfl) rfl ?_
  refine RS.off (dj := 20) rfl (.inl (congrArg Value.bool rfl)) (fun _ => rfl) rfl ?_
  refine RS.off (dj := 20) rfl (.inl (congrArg Value.bool rfl)) (fun _ => rfl) rfl ?_
  refine RS.q rfl (QO.pickT (by rfl) rfl (by rfl)) ?_
  refine RS.nil ?_
  refine thenC_n ?_
  refine CS.condT (by rfl) rfl ?_
  refine CS.seq ?_
  refine CS.region ?_
  refine RS.q rfl (QO.build ty61 pl61 (by rfl)) ?_
  first | refine RS.storeB ty61 (by rfl) (by rfl) (by rfl) (by rfl) (by rfl) (by repeat (first | exact Upd.head | apply Upd.tail)) (by rfl) ?_ | refine RS.storeP ty61 (by rfl) (by rfl) (by rfl) (by rfl) (by rfl) (by repeat (first | exact Upd.head | apply Upd.tail)) (by rfl) ?_
  refine RS.q rfl (QO.assign) ?_
  refine RS.nil ?_
  refine thenC_n ?_
  refine CS.ret ?_
  refine thenC_r ?_
  refine retQ.mk (H' := []) (.inr rfl) (RVs.cellA ty61 (by rfl) (by repeat (first | exact List.Mem.head _ | refine List.Mem.tail _ ?_)) (by rfl) (RVs.tmp (by rfl) RVs.nil)) (List.nil_sublist _) ?_
  exact ⟨none, 0, retZ (mov_2 he (.inl hx)).2 (mov_2 he (.inl hx)).1, ownZ (mov_2 he (.inl hx)).2⟩

set_option maxRecDepth 100000 in
theorem moved2 (u : Win) (A : Option Addr) (c : Nat) (dx dy : Int) (W : World) (hA : PS W A u.pts) (hm : u.pts.length ≤ maxLen) (he : winE u = 0) (hx : plcB dx = true) (hy : plcB dy = false) : Fn_ Try.prog 28 #[.agg #[iv u.kind, flt u.x, flt u.y, flt u.w, flt u.h, flt u.soft, .slice A u.pts.length c, .bool u.out], iv dx, iv dy] W (fun v H => ∃ A2 c2, v = .tuple #[wV (movR u dx dy) A2 c2, iv (movE u dx dy)] ∧ OwnP A2 (movR u dx dy).pts H) := by
  refine Fn_.intro Try.func28 rfl rfl (by rfl) ?_
  refine CS.seq ?_
  refine CS.region ?_
  refine RS.box rfl (by rfl) (by rfl) ?_
  intro g3
  refine RS.alloc rfl ty61 ?_
  intro g6
  refine RS.q rfl (QO.assign) ?_
  refine RS.nil ?_
  refine thenC_n ?_
  refine CS.seq ?_
  refine CS.seq ?_
  refine CS.region ?_
  first | (refine RS.q rfl (QO.loadB ty61 (by rfl) (by repeat (first | exact List.Mem.head _ | refine List.Mem.tail _ ?_)) (by rfl)) ?_) | (refine RS.q rfl (QO.loadA ty61 (by rfl) (by repeat (first | exact List.Mem.head _ | refine List.Mem.tail _ ?_)) (by rfl) (by rfl)) ?_) | (refine RS.q rfl (QO.loadOA ty61 (by rfl) (by assumption) (by rfl)) ?_)
  refine RS.call rfl (by rfl) ok74 (by rfl) (fun w ho => checkWindow u A c _ (hA.own ho) hm) ?_
  rintro _ _ ⟨rfl, rfl⟩
  refine RS.q rfl (QO.assign) ?_
  refine RS.nil ?_
  refine thenC_n ?_
  refine CS.seq ?_
  refine CS.region ?_
  refine RS.q rfl (QO.move) ?_
  refine RS.qv rfl (QO.neq (by rfl) (by rfl)) (congrArg Value.bool (show (winE u != 0) = false from by rw [he]; rfl)) ?_
  refine RS.nil ?_
  refine thenC_n ?_
  refine CS.condF (by rfl) rfl ?_
  refine CS.skip ?_
  refine thenC_n ?_
  refine CS.seq ?_
  refine CS.seq ?_
  refine CS.region ?_
  refine RS.q rfl (QO.move) ?_
  refine RS.call rfl (by rfl) ok85 (by rfl) (fun w ho => placed dx _) ?_
  rintro _ _ ⟨rfl, rfl⟩
  refine RS.qv rfl (QO.not (by rfl)) (congrArg Value.bool (show (!plcB dx) = false by rw [hx]; rfl)) ?_
  refine RS.q rfl (QO.move) ?_
  refine RS.on (dj := 20) rfl (congrArg Value.bool rfl) ?_
  refine RS.q rfl (QO.move) ?_
  refine RS.on (dj := 20) rfl (congrArg Value.bool rfl) ?_
  refine RS.call rfl (by rfl) ok85 (by rfl) (fun w ho => placed dy _) ?_
  rintro _ _ ⟨rfl, rfl⟩
  refine RS.on (dj := 20) rfl (congrArg Value.bool rfl) ?_
  refine RS.qv rfl (QO.not (by rfl)) (congrArg Value.bool (show (!plcB dy) = true by rw [hy]; rfl)) ?_
  refine RS.q rfl (QO.pickF (by rfl) rfl (by rfl)) ?_
  refine RS.nil ?_
  refine thenC_n ?_
  refine CS.condT (by rfl) rfl ?_
  refine CS.seq ?_
  refine CS.region ?_
  refine RS.q rfl (QO.build ty61 pl61 (by rfl)) ?_
  first | refine RS.storeB ty61 (by rfl) (by rfl) (by rfl) (by rfl) (by rfl) (by repeat (first | exact Upd.head | apply Upd.tail)) (by rfl) ?_ | refine RS.storeP ty61 (by rfl) (by rfl) (by rfl) (by rfl) (by rfl) (by repeat (first | exact Upd.head | apply Upd.tail)) (by rfl) ?_
  refine RS.q rfl (QO.assign) ?_
  refine RS.nil ?_
  refine thenC_n ?_
  refine CS.ret ?_
  refine thenC_r ?_
  refine retQ.mk (H' := []) (.inr rfl) (RVs.cellA ty61 (by rfl) (by repeat (first | exact List.Mem.head _ | refine List.Mem.tail _ ?_)) (by rfl) (RVs.tmp (by rfl) RVs.nil)) (List.nil_sublist _) ?_
  exact ⟨none, 0, retZ (mov_2 he (.inr hy)).2 (mov_2 he (.inr hy)).1, ownZ (mov_2 he (.inr hy)).2⟩

set_option maxHeartbeats 4000000 in
set_option maxRecDepth 100000 in
theorem moved3 (u : Win) (A : Option Addr) (c : Nat) (dx dy : Int) (W : World) (hA : PS W A u.pts) (hm : u.pts.length ≤ maxLen) (he : winE u = 0) (hx : plcB dx = true) (hy : plcB dy = true) (hp : u.pts = []) : Fn_ Try.prog 28 #[.agg #[iv u.kind, flt u.x, flt u.y, flt u.w, flt u.h, flt u.soft, .slice A u.pts.length c, .bool u.out], iv dx, iv dy] W (fun v H => ∃ A2 c2, v = .tuple #[wV (movR u dx dy) A2 c2, iv (movE u dx dy)] ∧ OwnP A2 (movR u dx dy).pts H) := by
  have hxy := winE_xy he
  have hdx := plcB_T hx
  have hdy := plcB_T hy
  have hlz : u.pts.length = 0 := by rw [hp]; rfl
  refine Fn_.intro Try.func28 rfl rfl (by rfl) ?_
  refine CS.seq ?_
  refine CS.region ?_
  refine RS.box rfl (by rfl) (by rfl) ?_
  intro g3
  refine RS.alloc rfl ty61 ?_
  intro g6
  refine RS.q rfl (QO.assign) ?_
  refine RS.nil ?_
  refine thenC_n ?_
  refine CS.seq ?_
  refine CS.seq ?_
  refine CS.region ?_
  first | (refine RS.q rfl (QO.loadB ty61 (by rfl) (by repeat (first | exact List.Mem.head _ | refine List.Mem.tail _ ?_)) (by rfl)) ?_) | (refine RS.q rfl (QO.loadA ty61 (by rfl) (by repeat (first | exact List.Mem.head _ | refine List.Mem.tail _ ?_)) (by rfl) (by rfl)) ?_) | (refine RS.q rfl (QO.loadOA ty61 (by rfl) (by assumption) (by rfl)) ?_)
  refine RS.call rfl (by rfl) ok74 (by rfl) (fun w ho => checkWindow u A c _ (hA.own ho) hm) ?_
  rintro _ _ ⟨rfl, rfl⟩
  refine RS.q rfl (QO.assign) ?_
  refine RS.nil ?_
  refine thenC_n ?_
  refine CS.seq ?_
  refine CS.region ?_
  refine RS.q rfl (QO.move) ?_
  refine RS.qv rfl (QO.neq (by rfl) (by rfl)) (congrArg Value.bool (show (winE u != 0) = false from by rw [he]; rfl)) ?_
  refine RS.nil ?_
  refine thenC_n ?_
  refine CS.condF (by rfl) rfl ?_
  refine CS.skip ?_
  refine thenC_n ?_
  refine CS.seq ?_
  refine CS.seq ?_
  refine CS.region ?_
  refine RS.q rfl (QO.move) ?_
  refine RS.call rfl (by rfl) ok85 (by rfl) (fun w ho => placed dx _) ?_
  rintro _ _ ⟨rfl, rfl⟩
  refine RS.qv rfl (QO.not (by rfl)) (congrArg Value.bool (show (!plcB dx) = false by rw [hx]; rfl)) ?_
  refine RS.q rfl (QO.move) ?_
  refine RS.on (dj := 20) rfl (congrArg Value.bool rfl) ?_
  refine RS.q rfl (QO.move) ?_
  refine RS.on (dj := 20) rfl (congrArg Value.bool rfl) ?_
  refine RS.call rfl (by rfl) ok85 (by rfl) (fun w ho => placed dy _) ?_
  rintro _ _ ⟨rfl, rfl⟩
  refine RS.on (dj := 20) rfl (congrArg Value.bool rfl) ?_
  refine RS.qv rfl (QO.not (by rfl)) (congrArg Value.bool (show (!plcB dy) = false by rw [hy]; rfl)) ?_
  refine RS.q rfl (QO.pickF (by rfl) rfl (by rfl)) ?_
  refine RS.nil ?_
  refine thenC_n ?_
  refine CS.condF (by rfl) rfl ?_
  refine CS.skip ?_
  refine thenC_n ?_
  refine CS.seq ?_
  refine CS.region ?_
  first | (refine RS.q rfl (QO.loadB ty61 (by rfl) (by repeat (first | exact List.Mem.head _ | refine List.Mem.tail _ ?_)) (by rfl)) ?_) | (refine RS.q rfl (QO.loadA ty61 (by rfl) (by repeat (first | exact List.Mem.head _ | refine List.Mem.tail _ ?_)) (by rfl) (by rfl)) ?_) | (refine RS.q rfl (QO.loadOA ty61 (by rfl) (by assumption) (by rfl)) ?_)
  refine RS.call rfl (by rfl) ok70 (by rfl) (fun w ho => clonedE u A c _ hp) ?_
  rintro _ _ ⟨A2, c2, rfl, rfl⟩
  first | refine RS.storeB ty61 (by rfl) (by rfl) (by rfl) (by rfl) (by rfl) (by repeat (first | exact Upd.head | apply Upd.tail)) (by rfl) ?_ | refine RS.storeP ty61 (by rfl) (by rfl) (by rfl) (by rfl) (by rfl) (by repeat (first | exact Upd.head | apply Upd.tail)) (by rfl) ?_
  refine RS.nil ?_
  refine thenC_n ?_
  refine CS.seq ?_
  refine CS.seq ?_
  refine CS.region ?_
  refine RS.q rfl (QO.fieldAddr fo61_0 (by rfl)) ?_
  first | (refine RS.q rfl (QO.load ty3 (by rfl) (by repeat (first | exact List.Mem.head _ | refine List.Mem.tail _ ?_)) (by rfl)) ?_) | (refine RS.q rfl (QO.loadO ty3 (by rfl) (by assumption)) ?_) | (refine RS.q rfl (QO.load ty3 (by rfl) (by repeat (first | exact List.Mem.head _ | refine List.Mem.tail _ ?_)) (by assumption)) ?_)
  refine RS.qv rfl (QO.neq (by rfl) (by rfl)) (congrArg Value.bool (show (u.kind != 3) = true from bne_iff_ne.2 (kind_N he hp))) ?_
  refine RS.nil ?_
  refine thenC_n ?_
  refine CS.condT (by rfl) rfl ?_
  refine CS.seq ?_
  refine CS.region ?_
  refine RS.q rfl (QO.fieldAddr fo61_1 (by rfl)) ?_
  first | (refine RS.q rfl (QO.load ty29 (by rfl) (by repeat (first | exact List.Mem.head _ | refine List.Mem.tail _ ?_)) (by rfl)) ?_) | (refine RS.q rfl (QO.loadO ty29 (by rfl) (by assumption)) ?_) | (refine RS.q rfl (QO.load ty29 (by rfl) (by repeat (first | exact List.Mem.head _ | refine List.Mem.tail _ ?_)) (by assumption)) ?_)
  refine RS.q rfl (QO.move) ?_
  refine RS.q rfl (QO.conv_i64_f32 Try.underlying3 Try.underlying29 (by rfl)) ?_
  refine RS.q rfl (QO.faddS (by rfl) (by rfl) (add_moved hxy.1 hxy.2.1 (by omega)).1) ?_
  refine RS.q rfl (QO.fieldAddr fo61_1 (by rfl)) ?_
  refine RS.store1 ty29 rfl (by rfl) (by rfl) (by rfl) (by repeat (first | exact Upd.head | apply Upd.tail)) (by first | (simp; done) | (simp; omega) | omega) ?_
  refine RS.nil ?_
  refine thenC_n ?_
  refine CS.region ?_
  refine RS.q rfl (QO.fieldAddr fo61_2 (by rfl)) ?_
  first | (refine RS.q rfl (QO.load ty29 (by rfl) (by repeat (first | exact List.Mem.head _ | refine List.Mem.tail _ ?_)) (by rfl)) ?_) | (refine RS.q rfl (QO.loadO ty29 (by rfl) (by assumption)) ?_) | (refine RS.q rfl (QO.load ty29 (by rfl) (by repeat (first | exact List.Mem.head _ | refine List.Mem.tail _ ?_)) (by assumption)) ?_)
  refine RS.q rfl (QO.move) ?_
  refine RS.q rfl (QO.conv_i64_f32 Try.underlying3 Try.underlying29 (by rfl)) ?_
  refine RS.q rfl (QO.faddS (by rfl) (by rfl) (add_moved hxy.2.2.1 hxy.2.2.2 (by omega)).1) ?_
  refine RS.q rfl (QO.fieldAddr fo61_2 (by rfl)) ?_
  refine RS.store1 ty29 rfl (by rfl) (by rfl) (by rfl) (by repeat (first | exact Upd.head | apply Upd.tail)) (by first | (simp; done) | (simp; omega) | omega) ?_
  refine RS.nil ?_
  refine thenC_n ?_
  refine CS.seq ?_
  refine CS.seq ?_
  refine CS.region ?_
  refine RS.q rfl (QO.fieldAddr fo61_6 (by rfl)) ?_
  first | (refine RS.q rfl (QO.load ty59 (by rfl) (by repeat (first | exact List.Mem.head _ | refine List.Mem.tail _ ?_)) (by rfl)) ?_) | (refine RS.q rfl (QO.loadO ty59 (by rfl) (by assumption)) ?_) | (refine RS.q rfl (QO.load ty59 (by rfl) (by repeat (first | exact List.Mem.head _ | refine List.Mem.tail _ ?_)) (by assumption)) ?_)
  refine RS.q rfl (QO.lenS Try.underlying59 (by rfl)) ?_
  refine RS.q rfl (QO.move) ?_
  refine RS.nil ?_
  refine thenC_n ?_
  refine CS.block ?_
  refine CS.loop (X := Unit) (9 :: 46 :: 47 :: 48 :: 49 :: 50 :: 51 :: 52 :: 53 :: 54 :: 55 :: 56 :: 57 :: 58 :: 59 :: 60 :: 61 :: 62 :: 63 :: 64 :: 65 :: 66 :: 67 :: 68 :: 69 :: []) (fun z => [(46, iv 0)]) (fun z => [⟨g6, 61, [iv 0, flt 0, flt 0, flt 0, flt 0, flt 0, .slice none 0 0, .bool false]⟩, ⟨g3, 61, [iv u.kind, flt (addV u.x dx), flt (addV u.y dy), flt u.w, flt u.h, flt u.soft, .slice A2 u.pts.length c2, .bool u.out]⟩]) (fun z => True) (fun z => 0) () trivial ?_ ?_ ?_
  · exact (by repeat (first | exact kn_nil | refine kn_cons (by rfl) ?_))
  · exact (by repeat (first | exact List.Sublist.refl _ | exact List.nil_sublist _ | refine List.Sublist.cons_cons _ ?_ | refine List.Sublist.cons _ ?_ | exact Sbp.refl | exact Sbp.nil | refine Sbp.cons (by repeat (first | exact Rem.head | apply Rem.tail)) ?_ | exact Sbp.app | refine Sbp.skip ?_))
  · intro z gj11 hz
    refine CS.seq ?_
    refine CS.region ?_
    refine RS.qv rfl (QO.lss (by rfl) (by rfl)) (congrArg Value.bool (show _ = false from decide_eq_false (by omega))) ?_
    refine RS.nil ?_
    refine thenC_n ?_
    refine CS.seq ?_
    refine CS.condF (by rfl) rfl ?_
    refine CS.exit ?_
    refine thenC_x ?_
    refine loopQ_x ?_
    refine blockC_x ?_
    refine thenC_n ?_
    refine CS.seq ?_
    refine CS.seq ?_
    refine CS.region ?_
    first | (refine RS.q rfl (QO.loadB ty61 (by rfl) (by repeat (first | exact List.Mem.head _ | refine List.Mem.tail _ ?_)) (by rfl)) ?_) | (refine RS.q rfl (QO.loadA ty61 (by rfl) (by repeat (first | exact List.Mem.head _ | refine List.Mem.tail _ ?_)) (by rfl) (by rfl)) ?_) | (refine RS.q rfl (QO.loadOA ty61 (by rfl) (by assumption) (by rfl)) ?_)
    refine RS.call rfl (by rfl) ok74 (by rfl) (fun w ho => checkWindowL (movNW u dx dy) A2 c2 u.pts.length _ rfl (by show PS _ A2 u.pts; rw [hp]; exact PS.nil) hm) ?_
    rintro _ _ ⟨rfl, rfl⟩
    refine RS.q rfl (QO.assign) ?_
    refine RS.nil ?_
    refine thenC_n ?_
    refine CS.seq ?_
    refine CS.region ?_
    refine RS.q rfl (QO.move) ?_
    refine RS.q rfl (QO.neq (by rfl) (by rfl)) ?_
    refine RS.nil ?_
    refine thenC_n ?_
    refine CS.cond (by rfl) (fun hb0 => ?_) (fun hb0 => ?_)
    · have hb0p := bne_iff_ne.1 hb0
      refine CS.seq ?_
      refine CS.region ?_
      refine RS.q rfl (QO.build ty61 pl61 (by rfl)) ?_
      refine RS.q rfl (QO.move) ?_
      first | refine RS.storeB ty61 (by rfl) (by rfl) (by rfl) (by rfl) (by rfl) (by repeat (first | exact Upd.head | apply Upd.tail)) (by rfl) ?_ | refine RS.storeP ty61 (by rfl) (by rfl) (by rfl) (by rfl) (by rfl) (by repeat (first | exact Upd.head | apply Upd.tail)) (by rfl) ?_
      refine RS.q rfl (QO.assign) ?_
      refine RS.nil ?_
      refine thenC_n ?_
      refine CS.ret ?_
      refine thenC_r ?_
      refine retQ.mk (H' := []) (.inr rfl) (RVs.cellA ty61 (by rfl) (by repeat (first | exact List.Mem.head _ | refine List.Mem.tail _ ?_)) (by rfl) (RVs.tmp (by rfl) RVs.nil)) (List.nil_sublist _) ?_
      exact ⟨none, 0, retZ (mov_bad he hx hy (movN hp (kind_N he hp)) (by assumption)).2 (mov_bad he hx hy (movN hp (kind_N he hp)) (by assumption)).1, ownZ (mov_bad he hx hy (movN hp (kind_N he hp)) (by assumption)).2⟩
    · have hb0p := of_bne_false hb0
      refine CS.skip ?_
      refine thenC_n ?_
      refine CS.seq ?_
      refine CS.region ?_
      first | (refine RS.q rfl (QO.loadB ty61 (by rfl) (by repeat (first | exact List.Mem.head _ | refine List.Mem.tail _ ?_)) (by rfl)) ?_) | (refine RS.q rfl (QO.loadA ty61 (by rfl) (by repeat (first | exact List.Mem.head _ | refine List.Mem.tail _ ?_)) (by rfl) (by rfl)) ?_) | (refine RS.q rfl (QO.loadOA ty61 (by rfl) (by assumption) (by rfl)) ?_)
      first | refine RS.storeB ty61 (by rfl) (by rfl) (by rfl) (by rfl) (by rfl) (by repeat (first | exact Upd.head | apply Upd.tail)) (by rfl) ?_ | refine RS.storeP ty61 (by rfl) (by rfl) (by rfl) (by rfl) (by rfl) (by repeat (first | exact Upd.head | apply Upd.tail)) (by rfl) ?_
      refine RS.q rfl (QO.assign) ?_
      refine RS.nil ?_
      refine thenC_n ?_
      refine CS.ret ?_
      refine retQ.mk (H' := []) (.inr rfl) (RVs.cellA ty61 (by rfl) (by repeat (first | exact List.Mem.head _ | refine List.Mem.tail _ ?_)) (by rfl) (RVs.tmp (by rfl) RVs.nil)) (List.nil_sublist _) ?_
      exact ⟨A2, c2, retM (m := movNW u dx dy) (mov_ok he hx hy (movN hp (kind_N he hp)) (by assumption)).2 (mov_ok he hx hy (movN hp (kind_N he hp)) (by assumption)).1 rfl, ownM (mov_ok he hx hy (movN hp (kind_N he hp)) (by assumption)).2 (by show OwnP A2 u.pts _; rw [hp]; exact OwnP.nil)⟩

set_option maxHeartbeats 4000000 in
set_option maxRecDepth 100000 in
theorem moved4 (u : Win) (A : Option Addr) (c : Nat) (dx dy : Int) (W : World) (hA : PS W A u.pts) (hm : u.pts.length ≤ maxLen) (he : winE u = 0) (hx : plcB dx = true) (hy : plcB dy = true) (hp : ¬ u.pts = []) : Fn_ Try.prog 28 #[.agg #[iv u.kind, flt u.x, flt u.y, flt u.w, flt u.h, flt u.soft, .slice A u.pts.length c, .bool u.out], iv dx, iv dy] W (fun v H => ∃ A2 c2, v = .tuple #[wV (movR u dx dy) A2 c2, iv (movE u dx dy)] ∧ OwnP A2 (movR u dx dy).pts H) := by
  have hdx := plcB_T hx
  have hdy := plcB_T hy
  have hl32 := (winE_pts he).1
  refine Fn_.intro Try.func28 rfl rfl (by rfl) ?_
  refine CS.seq ?_
  refine CS.region ?_
  refine RS.box rfl (by rfl) (by rfl) ?_
  intro g3
  refine RS.alloc rfl ty61 ?_
  intro g6
  refine RS.q rfl (QO.assign) ?_
  refine RS.nil ?_
  refine thenC_n ?_
  refine CS.seq ?_
  refine CS.seq ?_
  refine CS.region ?_
  first | (refine RS.q rfl (QO.loadB ty61 (by rfl) (by repeat (first | exact List.Mem.head _ | refine List.Mem.tail _ ?_)) (by rfl)) ?_) | (refine RS.q rfl (QO.loadA ty61 (by rfl) (by repeat (first | exact List.Mem.head _ | refine List.Mem.tail _ ?_)) (by rfl) (by rfl)) ?_) | (refine RS.q rfl (QO.loadOA ty61 (by rfl) (by assumption) (by rfl)) ?_)
  refine RS.call rfl (by rfl) ok74 (by rfl) (fun w ho => checkWindow u A c _ (hA.own ho) hm) ?_
  rintro _ _ ⟨rfl, rfl⟩
  refine RS.q rfl (QO.assign) ?_
  refine RS.nil ?_
  refine thenC_n ?_
  refine CS.seq ?_
  refine CS.region ?_
  refine RS.q rfl (QO.move) ?_
  refine RS.qv rfl (QO.neq (by rfl) (by rfl)) (congrArg Value.bool (show (winE u != 0) = false from by rw [he]; rfl)) ?_
  refine RS.nil ?_
  refine thenC_n ?_
  refine CS.condF (by rfl) rfl ?_
  refine CS.skip ?_
  refine thenC_n ?_
  refine CS.seq ?_
  refine CS.seq ?_
  refine CS.region ?_
  refine RS.q rfl (QO.move) ?_
  refine RS.call rfl (by rfl) ok85 (by rfl) (fun w ho => placed dx _) ?_
  rintro _ _ ⟨rfl, rfl⟩
  refine RS.qv rfl (QO.not (by rfl)) (congrArg Value.bool (show (!plcB dx) = false by rw [hx]; rfl)) ?_
  refine RS.q rfl (QO.move) ?_
  refine RS.on (dj := 20) rfl (congrArg Value.bool rfl) ?_
  refine RS.q rfl (QO.move) ?_
  refine RS.on (dj := 20) rfl (congrArg Value.bool rfl) ?_
  refine RS.call rfl (by rfl) ok85 (by rfl) (fun w ho => placed dy _) ?_
  rintro _ _ ⟨rfl, rfl⟩
  refine RS.on (dj := 20) rfl (congrArg Value.bool rfl) ?_
  refine RS.qv rfl (QO.not (by rfl)) (congrArg Value.bool (show (!plcB dy) = false by rw [hy]; rfl)) ?_
  refine RS.q rfl (QO.pickF (by rfl) rfl (by rfl)) ?_
  refine RS.nil ?_
  refine thenC_n ?_
  refine CS.condF (by rfl) rfl ?_
  refine CS.skip ?_
  refine thenC_n ?_
  refine CS.seq ?_
  refine CS.region ?_
  first | (refine RS.q rfl (QO.loadB ty61 (by rfl) (by repeat (first | exact List.Mem.head _ | refine List.Mem.tail _ ?_)) (by rfl)) ?_) | (refine RS.q rfl (QO.loadA ty61 (by rfl) (by repeat (first | exact List.Mem.head _ | refine List.Mem.tail _ ?_)) (by rfl) (by rfl)) ?_) | (refine RS.q rfl (QO.loadOA ty61 (by rfl) (by assumption) (by rfl)) ?_)
  refine RS.call rfl (by rfl) ok70 (by rfl) (fun w ho => clonedP u A c _ (hA.own ho) (len_P hp) (by omega)) ?_
  rintro _ _ ⟨gp, cp, jk, rfl, rfl, hcp, hcpx⟩
  first | refine RS.storeB ty61 (by rfl) (by rfl) (by rfl) (by rfl) (by rfl) (by repeat (first | exact Upd.head | apply Upd.tail)) (by rfl) ?_ | refine RS.storeP ty61 (by rfl) (by rfl) (by rfl) (by rfl) (by rfl) (by repeat (first | exact Upd.head | apply Upd.tail)) (by rfl) ?_
  refine RS.nil ?_
  refine thenC_n ?_
  refine CS.seq ?_
  refine CS.seq ?_
  refine CS.region ?_
  refine RS.q rfl (QO.fieldAddr fo61_0 (by rfl)) ?_
  first | (refine RS.q rfl (QO.load ty3 (by rfl) (by repeat (first | exact List.Mem.head _ | refine List.Mem.tail _ ?_)) (by rfl)) ?_) | (refine RS.q rfl (QO.loadO ty3 (by rfl) (by assumption)) ?_) | (refine RS.q rfl (QO.load ty3 (by rfl) (by repeat (first | exact List.Mem.head _ | refine List.Mem.tail _ ?_)) (by assumption)) ?_)
  refine RS.qv rfl (QO.neq (by rfl) (by rfl)) (congrArg Value.bool (show (u.kind != 3) = false from by rw [kind_P he hp]; rfl)) ?_
  refine RS.nil ?_
  refine thenC_n ?_
  refine CS.condF (by rfl) rfl ?_
  refine CS.skip ?_
  refine thenC_n ?_
  refine CS.seq ?_
  refine CS.seq ?_
  refine CS.region ?_
  refine RS.q rfl (QO.fieldAddr fo61_6 (by rfl)) ?_
  first | (refine RS.q rfl (QO.load ty59 (by rfl) (by repeat (first | exact List.Mem.head _ | refine List.Mem.tail _ ?_)) (by rfl)) ?_) | (refine RS.q rfl (QO.loadO ty59 (by rfl) (by assumption)) ?_) | (refine RS.q rfl (QO.load ty59 (by rfl) (by repeat (first | exact List.Mem.head _ | refine List.Mem.tail _ ?_)) (by assumption)) ?_)
  refine RS.q rfl (QO.lenS Try.underlying59 (by rfl)) ?_
  refine RS.q rfl (QO.move) ?_
  refine RS.nil ?_
  refine thenC_n ?_
  refine CS.block ?_
  refine CS.loop (X := Nat) (9 :: 46 :: 47 :: 48 :: 49 :: 50 :: 51 :: 52 :: 53 :: 54 :: 55 :: 56 :: 57 :: 58 :: 59 :: 60 :: 61 :: 62 :: 63 :: 64 :: 65 :: 66 :: 67 :: 68 :: 69 :: []) (fun k => [(46, iv (k : Int))]) (fun k => [⟨gp, 31, psC (movPs u.pts dx dy k) ++ jk⟩, ⟨g6, 61, [iv 0, flt 0, flt 0, flt 0, flt 0, flt 0, .slice none 0 0, .bool false]⟩, ⟨g3, 61, [iv u.kind, flt u.x, flt u.y, flt u.w, flt u.h, flt u.soft, .slice (some ⟨gp, 0, none⟩) u.pts.length cp, .bool u.out]⟩]) (fun k => k ≤ u.pts.length) (fun k => u.pts.length - k) 0 (Nat.zero_le _) ?_ ?_ ?_
  · exact (by repeat (first | exact kn_nil | refine kn_cons (by rfl) ?_))
  · exact (by rw [movPs_0]; exact (by repeat (first | exact List.Sublist.refl _ | exact List.nil_sublist _ | refine List.Sublist.cons_cons _ ?_ | refine List.Sublist.cons _ ?_ | exact Sbp.refl | exact Sbp.nil | refine Sbp.cons (by repeat (first | exact Rem.head | apply Rem.tail)) ?_ | exact Sbp.app | refine Sbp.skip ?_)))
  · intro k gj11 hz
    refine CS.seq ?_
    refine CS.region ?_
    refine RS.q rfl (QO.lss (by rfl) (by rfl)) ?_
    refine RS.nil ?_
    refine thenC_n ?_
    refine CS.seq ?_
    refine CS.cond (by rfl) (fun hb0 => ?_) (fun hb0 => ?_)
    · have hb0p := of_decide_eq_true hb0
      refine CS.skip ?_
      refine thenC_n ?_
      refine CS.seq ?_
      refine CS.block ?_
      refine CS.seq ?_
      refine CS.region ?_
      refine RS.q rfl (QO.move) ?_
      refine RS.q rfl (QO.assign) ?_
      refine RS.nil ?_
      refine thenC_n ?_
      refine CS.seq ?_
      refine CS.region ?_
      refine RS.q rfl (QO.fieldAddr fo61_6 (by rfl)) ?_
      first | (refine RS.q rfl (QO.load ty59 (by rfl) (by repeat (first | exact List.Mem.head _ | refine List.Mem.tail _ ?_)) (by rfl)) ?_) | (refine RS.q rfl (QO.loadO ty59 (by rfl) (by assumption)) ?_) | (refine RS.q rfl (QO.load ty59 (by rfl) (by repeat (first | exact List.Mem.head _ | refine List.Mem.tail _ ?_)) (by assumption)) ?_)
      refine RS.q rfl (QO.move) ?_
      refine RS.qv rfl (QO.idx Try.underlying59 ty31 (by rfl) (by rfl) (by omega) (by omega)) (congrArg (fun o => Value.pointer (some ⟨gp, o, none⟩)) (show 0 + (k : Int).toNat * 2 = k * 2 by rw [Int.toNat_natCast]; omega)) ?_
      refine RS.q rfl (QO.fieldAddr fo31_0 (by rfl)) ?_
      have hpk := winE_place he (show k < u.pts.length by omega)
      refine RS.q rfl (QO.load ty3 (by rfl) (by repeat (first | exact List.Mem.head _ | refine List.Mem.tail _ ?_)) (mov_x (show k < u.pts.length by omega))) ?_
      refine RS.q rfl (QO.move) ?_
      first | (refine RS.q rfl (QO.add (by rfl) (by rfl) (by omega) (by omega)) ?_) | (refine RS.q rfl (QO.ibin (by rfl) (by rfl) trivial) ?_)
      refine RS.qv rfl (QO.idx Try.underlying59 ty31 (by rfl) (by rfl) (by omega) (by omega)) (congrArg (fun o => Value.pointer (some ⟨gp, o, none⟩)) (show 0 + (k : Int).toNat * 2 = k * 2 by rw [Int.toNat_natCast]; omega)) ?_
      refine RS.q rfl (QO.fieldAddr fo31_0 (by rfl)) ?_
      refine RS.store1e ty3 rfl (by rfl) (by rfl) (by rfl) (mov_sx _ (show k < u.pts.length by omega)) (by repeat (first | exact Upd.head | apply Upd.tail)) (by rw [List.length_append, psC_len, movPs_len]; omega) ?_
      refine RS.nil ?_
      refine thenC_n ?_
      refine CS.region ?_
      refine RS.q rfl (QO.fieldAddr fo61_6 (by rfl)) ?_
      first | (refine RS.q rfl (QO.load ty59 (by rfl) (by repeat (first | exact List.Mem.head _ | refine List.Mem.tail _ ?_)) (by rfl)) ?_) | (refine RS.q rfl (QO.loadO ty59 (by rfl) (by assumption)) ?_) | (refine RS.q rfl (QO.load ty59 (by rfl) (by repeat (first | exact List.Mem.head _ | refine List.Mem.tail _ ?_)) (by assumption)) ?_)
      refine RS.q rfl (QO.move) ?_
      refine RS.qv rfl (QO.idx Try.underlying59 ty31 (by rfl) (by rfl) (by omega) (by omega)) (congrArg (fun o => Value.pointer (some ⟨gp, o, none⟩)) (show 0 + (k : Int).toNat * 2 = k * 2 by rw [Int.toNat_natCast]; omega)) ?_
      refine RS.q rfl (QO.fieldAddr fo31_1 (by rfl)) ?_
      refine RS.q rfl (QO.load ty3 (by rfl) (by repeat (first | exact List.Mem.head _ | refine List.Mem.tail _ ?_)) (mov_y _ (show k < u.pts.length by omega))) ?_
      refine RS.q rfl (QO.move) ?_
      first | (refine RS.q rfl (QO.add (by rfl) (by rfl) (by omega) (by omega)) ?_) | (refine RS.q rfl (QO.ibin (by rfl) (by rfl) trivial) ?_)
      refine RS.qv rfl (QO.idx Try.underlying59 ty31 (by rfl) (by rfl) (by omega) (by omega)) (congrArg (fun o => Value.pointer (some ⟨gp, o, none⟩)) (show 0 + (k : Int).toNat * 2 = k * 2 by rw [Int.toNat_natCast]; omega)) ?_
      refine RS.q rfl (QO.fieldAddr fo31_1 (by rfl)) ?_
      refine RS.store1e ty3 rfl (by rfl) (by rfl) (by rfl) (mov_sy (show k < u.pts.length by omega)) (by repeat (first | exact Upd.head | apply Upd.tail)) (by rw [List.length_append, psC_len, ptx_len, movPs_len]; omega) ?_
      refine RS.nil ?_
      refine blockC_n ?_
      refine thenC_n ?_
      refine CS.region ?_
      first | (refine RS.q rfl (QO.add (by rfl) (by rfl) (by omega) (by omega)) ?_) | (refine RS.q rfl (QO.ibin (by rfl) (by rfl) trivial) ?_)
      refine RS.q rfl (QO.move) ?_
      refine RS.nil ?_
      refine loopQ_n (by intro t ht; repeat (first | with_reducible exact rfl | exact frame_puts ht (frame_mix ht) _ rfl | (refine frame_put rfl ht ?_) | (refine frame_puts ht ?_ _ rfl) | exact frame_mix ht | (refine frame_mix2 rfl ht ?_) | exact rfl)) ?_
      exact ⟨k + 1, by omega, by omega, (by repeat (first | exact kn_nil | refine kn_cons (by rfl) ?_)), (by repeat (first | exact List.Sublist.refl _ | exact List.nil_sublist _ | refine List.Sublist.cons_cons _ ?_ | refine List.Sublist.cons _ ?_ | exact Sbp.refl | exact Sbp.nil | refine Sbp.cons (by repeat (first | exact Rem.head | apply Rem.tail)) ?_ | exact Sbp.app | refine Sbp.skip ?_))⟩
    · have hb0p := of_decide_eq_false hb0
      refine CS.exit ?_
      refine thenC_x ?_
      refine loopQ_x ?_
      refine blockC_x ?_
      refine thenC_n ?_
      refine CS.seq ?_
      refine CS.seq ?_
      refine CS.region ?_
      first | (refine RS.q rfl (QO.loadB ty61 (by rfl) (by repeat (first | exact List.Mem.head _ | refine List.Mem.tail _ ?_)) (by rfl)) ?_) | (refine RS.q rfl (QO.loadA ty61 (by rfl) (by repeat (first | exact List.Mem.head _ | refine List.Mem.tail _ ?_)) (by rfl) (by rfl)) ?_) | (refine RS.q rfl (QO.loadOA ty61 (by rfl) (by assumption) (by rfl)) ?_)
      refine RS.call rfl (by rfl) ok74 (by rfl) (fun w ho => checkWindowL (movPW u dx dy k) (some ⟨gp, 0, none⟩) cp u.pts.length _ (movPs_len ..) (PS.blk (t := 31) (junk := jk) ho (by repeat (first | exact List.Mem.head _ | refine List.Mem.tail _ ?_))) hm) ?_
      rintro _ _ ⟨rfl, rfl⟩
      refine RS.q rfl (QO.assign) ?_
      refine RS.nil ?_
      refine thenC_n ?_
      refine CS.seq ?_
      refine CS.region ?_
      refine RS.q rfl (QO.move) ?_
      refine RS.q rfl (QO.neq (by rfl) (by rfl)) ?_
      refine RS.nil ?_
      refine thenC_n ?_
      refine CS.cond (by rfl) (fun hb1 => ?_) (fun hb1 => ?_)
      · have hb1p := bne_iff_ne.1 hb1
        refine CS.seq ?_
        refine CS.region ?_
        refine RS.q rfl (QO.build ty61 pl61 (by rfl)) ?_
        refine RS.q rfl (QO.move) ?_
        first | refine RS.storeB ty61 (by rfl) (by rfl) (by rfl) (by rfl) (by rfl) (by repeat (first | exact Upd.head | apply Upd.tail)) (by rfl) ?_ | refine RS.storeP ty61 (by rfl) (by rfl) (by rfl) (by rfl) (by rfl) (by repeat (first | exact Upd.head | apply Upd.tail)) (by rfl) ?_
        refine RS.q rfl (QO.assign) ?_
        refine RS.nil ?_
        refine thenC_n ?_
        refine CS.ret ?_
        refine thenC_r ?_
        refine retQ.mk (H' := []) (.inr rfl) (RVs.cellA ty61 (by rfl) (by repeat (first | exact List.Mem.head _ | refine List.Mem.tail _ ?_)) (by rfl) (RVs.tmp (by rfl) RVs.nil)) (List.nil_sublist _) ?_
        exact ⟨none, 0, retZ (mov_bad he hx hy (movPk (k := k) (kind_P he hp) (by omega)) (by assumption)).2 (mov_bad he hx hy (movPk (k := k) (kind_P he hp) (by omega)) (by assumption)).1, ownZ (mov_bad he hx hy (movPk (k := k) (kind_P he hp) (by omega)) (by assumption)).2⟩
      · have hb1p := of_bne_false hb1
        refine CS.skip ?_
        refine thenC_n ?_
        refine CS.seq ?_
        refine CS.region ?_
        first | (refine RS.q rfl (QO.loadB ty61 (by rfl) (by repeat (first | exact List.Mem.head _ | refine List.Mem.tail _ ?_)) (by rfl)) ?_) | (refine RS.q rfl (QO.loadA ty61 (by rfl) (by repeat (first | exact List.Mem.head _ | refine List.Mem.tail _ ?_)) (by rfl) (by rfl)) ?_) | (refine RS.q rfl (QO.loadOA ty61 (by rfl) (by assumption) (by rfl)) ?_)
        first | refine RS.storeB ty61 (by rfl) (by rfl) (by rfl) (by rfl) (by rfl) (by repeat (first | exact Upd.head | apply Upd.tail)) (by rfl) ?_ | refine RS.storeP ty61 (by rfl) (by rfl) (by rfl) (by rfl) (by rfl) (by repeat (first | exact Upd.head | apply Upd.tail)) (by rfl) ?_
        refine RS.q rfl (QO.assign) ?_
        refine RS.nil ?_
        refine thenC_n ?_
        refine CS.ret ?_
        refine retQ.mk (H' := [⟨gp, 31, psC (movPs u.pts dx dy k) ++ jk⟩]) (.inr rfl) (RVs.cellA ty61 (by rfl) (by repeat (first | exact List.Mem.head _ | refine List.Mem.tail _ ?_)) (by rfl) (RVs.tmp (by rfl) RVs.nil)) (by repeat (first | exact List.Sublist.refl _ | exact List.nil_sublist _ | refine List.Sublist.cons_cons _ ?_ | refine List.Sublist.cons _ ?_ | exact Sbp.refl | exact Sbp.nil | refine Sbp.cons (by repeat (first | exact Rem.head | apply Rem.tail)) ?_ | exact Sbp.app | refine Sbp.skip ?_)) ?_
        exact ⟨_, cp, retM (m := movPW u dx dy k) (mov_ok he hx hy (movPk (k := k) (kind_P he hp) (by omega)) (by assumption)).2 (mov_ok he hx hy (movPk (k := k) (kind_P he hp) (by omega)) (by assumption)).1 (movPs_len ..), ownM (mov_ok he hx hy (movPk (k := k) (kind_P he hp) (by omega)) (by assumption)).2 OwnP.blk⟩

theorem moved_ (u : Win) (A : Option Addr) (c : Nat) (dx dy : Int) (W : World) (hA : PS W A u.pts) (hm : u.pts.length ≤ maxLen) : Fn_ Try.prog 28 #[.agg #[iv u.kind, flt u.x, flt u.y, flt u.w, flt u.h, flt u.soft, .slice A u.pts.length c, .bool u.out], iv dx, iv dy] W (fun v H => ∃ A2 c2, v = .tuple #[wV (movR u dx dy) A2 c2, iv (movE u dx dy)] ∧ OwnP A2 (movR u dx dy).pts H) := by
  by_cases he : winE u = 0
  · cases hx : plcB dx with
    | false => exact moved1 u A c dx dy W hA hm he hx
    | true =>
      cases hy : plcB dy with
      | false => exact moved2 u A c dx dy W hA hm he hx hy
      | true =>
        by_cases hp : u.pts = []
        · exact moved3 u A c dx dy W hA hm he hx hy hp
        · exact moved4 u A c dx dy W hA hm he hx hy hp
  · exact moved0 u A c dx dy W hA hm he

set_option maxRecDepth 100000 in
theorem rmoved0 (u : Win) (A : Option Addr) (c : Nat) (dx dy : Int) (W : World) (hA : PS W A u.pts) (hm : u.pts.length ≤ maxLen) (he : winE u ≠ 0) : Fn_ Try.prog 29 #[.agg #[iv u.kind, flt u.x, flt u.y, flt u.w, flt u.h, flt u.soft, .slice A u.pts.length c, .bool u.out], iv dx, iv dy] W (fun v H => ∃ A2 c2, v = .tuple #[wV (movR u dx dy) A2 c2, iv (movE u dx dy)] ∧ OwnP A2 (movR u dx dy).pts H) := by
  refine Fn_.intro Try.func29 rfl rfl (by rfl) ?_
  refine CS.seq ?_
  refine CS.region ?_
  refine RS.box rfl (by rfl) (by rfl) ?_
  intro g3
  refine RS.alloc rfl ty61 ?_
  intro g6
  refine RS.q rfl (QO.assign) ?_
  refine RS.nil ?_
  refine thenC_n ?_
  refine CS.seq ?_
  refine CS.seq ?_
  refine CS.region ?_
  first | (refine RS.q rfl (QO.loadB ty61 (by rfl) (by repeat (first | exact List.Mem.head _ | refine List.Mem.tail _ ?_)) (by rfl)) ?_) | (refine RS.q rfl (QO.loadA ty61 (by rfl) (by repeat (first | exact List.Mem.head _ | refine List.Mem.tail _ ?_)) (by rfl) (by rfl)) ?_) | (refine RS.q rfl (QO.loadOA ty61 (by rfl) (by assumption) (by rfl)) ?_)
  refine RS.call rfl (by rfl) ok69 (by rfl) (fun w ho => windowError u A c _ (hA.own ho) hm) ?_
  rintro _ _ ⟨rfl, rfl⟩
  refine RS.q rfl (QO.assign) ?_
  refine RS.nil ?_
  refine thenC_n ?_
  refine CS.seq ?_
  refine CS.region ?_
  refine RS.q rfl (QO.move) ?_
  refine RS.qv rfl (QO.neq (by rfl) (by rfl)) (congrArg Value.bool (show (winE u != 0) = true from bne_iff_ne.2 he)) ?_
  refine RS.nil ?_
  refine thenC_n ?_
  refine CS.condT (by rfl) rfl ?_
  refine CS.seq ?_
  refine CS.region ?_
  refine RS.q rfl (QO.build ty61 pl61 (by rfl)) ?_
  refine RS.q rfl (QO.move) ?_
  first | refine RS.storeB ty61 (by rfl) (by rfl) (by rfl) (by rfl) (by rfl) (by repeat (first | exact Upd.head | apply Upd.tail)) (by rfl) ?_ | refine RS.storeP ty61 (by rfl) (by rfl) (by rfl) (by rfl) (by rfl) (by repeat (first | exact Upd.head | apply Upd.tail)) (by rfl) ?_
  refine RS.q rfl (QO.assign) ?_
  refine RS.nil ?_
  refine thenC_n ?_
  refine CS.ret ?_
  refine thenC_r ?_
  refine retQ.mk (H' := []) (.inr rfl) (RVs.cellA ty61 (by rfl) (by repeat (first | exact List.Mem.head _ | refine List.Mem.tail _ ?_)) (by rfl) (RVs.tmp (by rfl) RVs.nil)) (List.nil_sublist _) ?_
  exact ⟨none, 0, retZ (mov_1 he).2 (mov_1 he).1, ownZ (mov_1 he).2⟩

set_option maxRecDepth 100000 in
theorem rmoved1 (u : Win) (A : Option Addr) (c : Nat) (dx dy : Int) (W : World) (hA : PS W A u.pts) (hm : u.pts.length ≤ maxLen) (he : winE u = 0) (hx : plcB dx = false) : Fn_ Try.prog 29 #[.agg #[iv u.kind, flt u.x, flt u.y, flt u.w, flt u.h, flt u.soft, .slice A u.pts.length c, .bool u.out], iv dx, iv dy] W (fun v H => ∃ A2 c2, v = .tuple #[wV (movR u dx dy) A2 c2, iv (movE u dx dy)] ∧ OwnP A2 (movR u dx dy).pts H) := by
  refine Fn_.intro Try.func29 rfl rfl (by rfl) ?_
  refine CS.seq ?_
  refine CS.region ?_
  refine RS.box rfl (by rfl) (by rfl) ?_
  intro g3
  refine RS.alloc rfl ty61 ?_
  intro g6
  refine RS.q rfl (QO.assign) ?_
  refine RS.nil ?_
  refine thenC_n ?_
  refine CS.seq ?_
  refine CS.seq ?_
  refine CS.region ?_
  first | (refine RS.q rfl (QO.loadB ty61 (by rfl) (by repeat (first | exact List.Mem.head _ | refine List.Mem.tail _ ?_)) (by rfl)) ?_) | (refine RS.q rfl (QO.loadA ty61 (by rfl) (by repeat (first | exact List.Mem.head _ | refine List.Mem.tail _ ?_)) (by rfl) (by rfl)) ?_) | (refine RS.q rfl (QO.loadOA ty61 (by rfl) (by assumption) (by rfl)) ?_)
  refine RS.call rfl (by rfl) ok69 (by rfl) (fun w ho => windowError u A c _ (hA.own ho) hm) ?_
  rintro _ _ ⟨rfl, rfl⟩
  refine RS.q rfl (QO.assign) ?_
  refine RS.nil ?_
  refine thenC_n ?_
  refine CS.seq ?_
  refine CS.region ?_
  refine RS.q rfl (QO.move) ?_
  refine RS.qv rfl (QO.neq (by rfl) (by rfl)) (congrArg Value.bool (show (winE u != 0) = false from by rw [he]; rfl)) ?_
  refine RS.nil ?_
  refine thenC_n ?_
  refine CS.condF (by rfl) rfl ?_
  refine CS.skip ?_
  refine thenC_n ?_
  refine CS.seq ?_
  refine CS.seq ?_
  refine CS.region ?_
  refine RS.q rfl (QO.move) ?_
  refine RS.call rfl (by rfl) ok86 (by rfl) (fun w ho => far1 dx _) ?_
  rintro _ _ ⟨rfl, rfl⟩
  refine RS.q rfl (QO.move) ?_
  refine RS.off (dj := 19) rfl (.inl (congrArg Value.bool (show (!plcB dx) = true by rw [hx]; rfl))) (fun _ => rfl) rfl ?_
  refine RS.off (dj := 19) rfl (.inl (congrArg Value.bool (show (!plcB dx) = true by rw [hx]; rfl))) (fun _ => rfl) rfl ?_
  refine RS.q rfl (QO.pickT (by rfl) (show (!plcB dx) = true by rw [hx]; rfl) (by rfl)) ?_
  refine RS.nil ?_
  refine thenC_n ?_
  refine CS.condT (by rfl) rfl ?_
  refine CS.seq ?_
  refine CS.region ?_
  refine RS.q rfl (QO.build ty61 pl61 (by rfl)) ?_
  first | refine RS.storeB ty61 (by rfl) (by rfl) (by rfl) (by rfl) (by rfl) (by repeat (first | exact Upd.head | apply Upd.tail)) (by rfl) ?_ | refine RS.storeP ty61 (by rfl) (by rfl) (by rfl) (by rfl) (by rfl) (by repeat (first | exact Upd.head | apply Upd.tail)) (by rfl) ?_
  refine RS.q rfl (QO.assign) ?_
  refine RS.nil ?_
  refine thenC_n ?_
  refine CS.ret ?_
  refine thenC_r ?_
  refine retQ.mk (H' := []) (.inr rfl) (RVs.cellA ty61 (by rfl) (by repeat (first | exact List.Mem.head _ | refine List.Mem.tail _ ?_)) (by rfl) (RVs.tmp (by rfl) RVs.nil)) (List.nil_sublist _) ?_
  exact ⟨none, 0, retZ (mov_2 he (.inl hx)).2 (mov_2 he (.inl hx)).1, ownZ (mov_2 he (.inl hx)).2⟩

set_option maxRecDepth 100000 in
theorem rmoved2 (u : Win) (A : Option Addr) (c : Nat) (dx dy : Int) (W : World) (hA : PS W A u.pts) (hm : u.pts.length ≤ maxLen) (he : winE u = 0) (hx : plcB dx = true) (hy : plcB dy = false) : Fn_ Try.prog 29 #[.agg #[iv u.kind, flt u.x, flt u.y, flt u.w, flt u.h, flt u.soft, .slice A u.pts.length c, .bool u.out], iv dx, iv dy] W (fun v H => ∃ A2 c2, v = .tuple #[wV (movR u dx dy) A2 c2, iv (movE u dx dy)] ∧ OwnP A2 (movR u dx dy).pts H) := by
  refine Fn_.intro Try.func29 rfl rfl (by rfl) ?_
  refine CS.seq ?_
  refine CS.region ?_
  refine RS.box rfl (by rfl) (by rfl) ?_
  intro g3
  refine RS.alloc rfl ty61 ?_
  intro g6
  refine RS.q rfl (QO.assign) ?_
  refine RS.nil ?_
  refine thenC_n ?_
  refine CS.seq ?_
  refine CS.seq ?_
  refine CS.region ?_
  first | (refine RS.q rfl (QO.loadB ty61 (by rfl) (by repeat (first | exact List.Mem.head _ | refine List.Mem.tail _ ?_)) (by rfl)) ?_) | (refine RS.q rfl (QO.loadA ty61 (by rfl) (by repeat (first | exact List.Mem.head _ | refine List.Mem.tail _ ?_)) (by rfl) (by rfl)) ?_) | (refine RS.q rfl (QO.loadOA ty61 (by rfl) (by assumption) (by rfl)) ?_)
  refine RS.call rfl (by rfl) ok69 (by rfl) (fun w ho => windowError u A c _ (hA.own ho) hm) ?_
  rintro _ _ ⟨rfl, rfl⟩
  refine RS.q rfl (QO.assign) ?_
  refine RS.nil ?_
  refine thenC_n ?_
  refine CS.seq ?_
  refine CS.region ?_
  refine RS.q rfl (QO.move) ?_
  refine RS.qv rfl (QO.neq (by rfl) (by rfl)) (congrArg Value.bool (show (winE u != 0) = false from by rw [he]; rfl)) ?_
  refine RS.nil ?_
  refine thenC_n ?_
  refine CS.condF (by rfl) rfl ?_
  refine CS.skip ?_
  refine thenC_n ?_
  refine CS.seq ?_
  refine CS.seq ?_
  refine CS.region ?_
  refine RS.q rfl (QO.move) ?_
  refine RS.call rfl (by rfl) ok86 (by rfl) (fun w ho => far1 dx _) ?_
  rintro _ _ ⟨rfl, rfl⟩
  refine RS.q rfl (QO.move) ?_
  refine RS.on (dj := 19) rfl (congrArg Value.bool (show (!plcB dx) = false by rw [hx]; rfl)) ?_
  refine RS.q rfl (QO.move) ?_
  refine RS.on (dj := 19) rfl (congrArg Value.bool (show (!plcB dx) = false by rw [hx]; rfl)) ?_
  refine RS.call rfl (by rfl) ok86 (by rfl) (fun w ho => far1 dy _) ?_
  rintro _ _ ⟨rfl, rfl⟩
  refine RS.q rfl (QO.pickF (by rfl) (show (!plcB dx) = false by rw [hx]; rfl) (by rfl)) ?_
  refine RS.nil ?_
  refine thenC_n ?_
  refine CS.condT (by rfl) (show (!plcB dy) = true by rw [hy]; rfl) ?_
  refine CS.seq ?_
  refine CS.region ?_
  refine RS.q rfl (QO.build ty61 pl61 (by rfl)) ?_
  first | refine RS.storeB ty61 (by rfl) (by rfl) (by rfl) (by rfl) (by rfl) (by repeat (first | exact Upd.head | apply Upd.tail)) (by rfl) ?_ | refine RS.storeP ty61 (by rfl) (by rfl) (by rfl) (by rfl) (by rfl) (by repeat (first | exact Upd.head | apply Upd.tail)) (by rfl) ?_
  refine RS.q rfl (QO.assign) ?_
  refine RS.nil ?_
  refine thenC_n ?_
  refine CS.ret ?_
  refine thenC_r ?_
  refine retQ.mk (H' := []) (.inr rfl) (RVs.cellA ty61 (by rfl) (by repeat (first | exact List.Mem.head _ | refine List.Mem.tail _ ?_)) (by rfl) (RVs.tmp (by rfl) RVs.nil)) (List.nil_sublist _) ?_
  exact ⟨none, 0, retZ (mov_2 he (.inr hy)).2 (mov_2 he (.inr hy)).1, ownZ (mov_2 he (.inr hy)).2⟩

set_option maxHeartbeats 4000000 in
set_option maxRecDepth 100000 in
theorem rmoved3 (u : Win) (A : Option Addr) (c : Nat) (dx dy : Int) (W : World) (hA : PS W A u.pts) (hm : u.pts.length ≤ maxLen) (he : winE u = 0) (hx : plcB dx = true) (hy : plcB dy = true) (hp : u.pts = []) : Fn_ Try.prog 29 #[.agg #[iv u.kind, flt u.x, flt u.y, flt u.w, flt u.h, flt u.soft, .slice A u.pts.length c, .bool u.out], iv dx, iv dy] W (fun v H => ∃ A2 c2, v = .tuple #[wV (movR u dx dy) A2 c2, iv (movE u dx dy)] ∧ OwnP A2 (movR u dx dy).pts H) := by
  have hxy := winE_xy he
  have hdx := plcB_T hx
  have hdy := plcB_T hy
  have hlz : u.pts.length = 0 := by rw [hp]; rfl
  refine Fn_.intro Try.func29 rfl rfl (by rfl) ?_
  refine CS.seq ?_
  refine CS.region ?_
  refine RS.box rfl (by rfl) (by rfl) ?_
  intro g3
  refine RS.alloc rfl ty61 ?_
  intro g6
  refine RS.q rfl (QO.assign) ?_
  refine RS.nil ?_
  refine thenC_n ?_
  refine CS.seq ?_
  refine CS.seq ?_
  refine CS.region ?_
  first | (refine RS.q rfl (QO.loadB ty61 (by rfl) (by repeat (first | exact List.Mem.head _ | refine List.Mem.tail _ ?_)) (by rfl)) ?_) | (refine RS.q rfl (QO.loadA ty61 (by rfl) (by repeat (first | exact List.Mem.head _ | refine List.Mem.tail _ ?_)) (by rfl) (by rfl)) ?_) | (refine RS.q rfl (QO.loadOA ty61 (by rfl) (by assumption) (by rfl)) ?_)
  refine RS.call rfl (by rfl) ok69 (by rfl) (fun w ho => windowError u A c _ (hA.own ho) hm) ?_
  rintro _ _ ⟨rfl, rfl⟩
  refine RS.q rfl (QO.assign) ?_
  refine RS.nil ?_
  refine thenC_n ?_
  refine CS.seq ?_
  refine CS.region ?_
  refine RS.q rfl (QO.move) ?_
  refine RS.qv rfl (QO.neq (by rfl) (by rfl)) (congrArg Value.bool (show (winE u != 0) = false from by rw [he]; rfl)) ?_
  refine RS.nil ?_
  refine thenC_n ?_
  refine CS.condF (by rfl) rfl ?_
  refine CS.skip ?_
  refine thenC_n ?_
  refine CS.seq ?_
  refine CS.seq ?_
  refine CS.region ?_
  refine RS.q rfl (QO.move) ?_
  refine RS.call rfl (by rfl) ok86 (by rfl) (fun w ho => far1 dx _) ?_
  rintro _ _ ⟨rfl, rfl⟩
  refine RS.q rfl (QO.move) ?_
  refine RS.on (dj := 19) rfl (congrArg Value.bool (show (!plcB dx) = false by rw [hx]; rfl)) ?_
  refine RS.q rfl (QO.move) ?_
  refine RS.on (dj := 19) rfl (congrArg Value.bool (show (!plcB dx) = false by rw [hx]; rfl)) ?_
  refine RS.call rfl (by rfl) ok86 (by rfl) (fun w ho => far1 dy _) ?_
  rintro _ _ ⟨rfl, rfl⟩
  refine RS.q rfl (QO.pickF (by rfl) (show (!plcB dx) = false by rw [hx]; rfl) (by rfl)) ?_
  refine RS.nil ?_
  refine thenC_n ?_
  refine CS.condF (by rfl) (show (!plcB dy) = false by rw [hy]; rfl) ?_
  refine CS.skip ?_
  refine thenC_n ?_
  refine CS.seq ?_
  refine CS.seq ?_
  refine CS.region ?_
  refine RS.q rfl (QO.fieldAddr fo61_0 (by rfl)) ?_
  first | (refine RS.q rfl (QO.load ty3 (by rfl) (by repeat (first | exact List.Mem.head _ | refine List.Mem.tail _ ?_)) (by rfl)) ?_) | (refine RS.q rfl (QO.loadO ty3 (by rfl) (by assumption)) ?_) | (refine RS.q rfl (QO.load ty3 (by rfl) (by repeat (first | exact List.Mem.head _ | refine List.Mem.tail _ ?_)) (by assumption)) ?_)
  refine RS.qv rfl (QO.neq (by rfl) (by rfl)) (congrArg Value.bool (show (u.kind != 3) = true from bne_iff_ne.2 (kind_N he hp))) ?_
  refine RS.nil ?_
  refine thenC_n ?_
  refine CS.condT (by rfl) rfl ?_
  refine CS.draw2 [11, 13] (HT := [⟨g6, 61, [iv 0, flt 0, flt 0, flt 0, flt 0, flt 0, .slice none 0 0, .bool false]⟩]) (by repeat (first | exact List.Sublist.refl _ | exact List.nil_sublist _ | refine List.Sublist.cons_cons _ ?_ | refine List.Sublist.cons _ ?_ | exact Sbp.refl | exact Sbp.nil | refine Sbp.cons (by repeat (first | exact Rem.head | apply Rem.tail)) ?_ | exact Sbp.app | refine Sbp.skip ?_)) rfl (by kernel_rfl) ?_
  refine RT2.take1 (i := 0) rfl (by kernel_rfl) rfl (QO.fieldAddr fo61_1 (by rfl)) ?_
  first | (refine RT2.take1 (i := 1) rfl (by kernel_rfl) rfl (QO.load ty29 (by rfl) (by repeat (first | exact List.Mem.head _ | refine List.Mem.tail _ ?_)) (by rfl)) ?_) | (refine RT2.take1 (i := 1) rfl (by kernel_rfl) rfl (QO.loadO ty29 (by rfl) (by assumption)) ?_) | (refine RT2.take1 (i := 1) rfl (by kernel_rfl) rfl (QO.load ty29 (by rfl) (by repeat (first | exact List.Mem.head _ | refine List.Mem.tail _ ?_)) (by assumption)) ?_)
  refine RT2.take1 (i := 2) rfl (by kernel_rfl) rfl (QO.move) ?_
  refine RT2.take1 (i := 5) rfl (by kernel_rfl) rfl (QO.fieldAddr fo61_2 (by rfl)) ?_
  first | (refine RT2.take1 (i := 6) rfl (by kernel_rfl) rfl (QO.load ty29 (by rfl) (by repeat (first | exact List.Mem.head _ | refine List.Mem.tail _ ?_)) (by rfl)) ?_) | (refine RT2.take1 (i := 6) rfl (by kernel_rfl) rfl (QO.loadO ty29 (by rfl) (by assumption)) ?_) | (refine RT2.take1 (i := 6) rfl (by kernel_rfl) rfl (QO.load ty29 (by rfl) (by repeat (first | exact List.Mem.head _ | refine List.Mem.tail _ ?_)) (by assumption)) ?_)
  refine RT2.take2 (i := 7) rfl (by kernel_rfl) rfl (QO.move) ?_
  refine RT2.one (i := 3) (by kernel_rfl) rfl ?_
  refine RS.call rfl (by rfl) ok79 (by rfl) (fun w ho => rconvW dx _) ?_
  rintro _ _ ⟨rfl, rfl⟩
  refine RS.nil ⟨(by repeat (first | exact List.Sublist.refl _ | exact List.nil_sublist _ | refine List.Sublist.cons_cons _ ?_ | refine List.Sublist.cons _ ?_ | exact Sbp.refl | exact Sbp.nil | refine Sbp.cons (by repeat (first | exact Rem.head | apply Rem.tail)) ?_ | exact Sbp.app | refine Sbp.skip ?_)), (by repeat (first | exact List.Sublist.refl _ | exact List.nil_sublist _ | refine List.Sublist.cons_cons _ ?_ | refine List.Sublist.cons _ ?_ | exact Sbp.refl | exact Sbp.nil | refine Sbp.cons (by repeat (first | exact Rem.head | apply Rem.tail)) ?_ | exact Sbp.app | refine Sbp.skip ?_)), ?_⟩
  refine RT2.one (i := 4) (by kernel_rfl) rfl ?_
  refine RS.call rfl (by rfl) ok87 (by rfl) (fun w ho => raddK u.x dx _ hxy.1 hxy.2.1 (by omega)) ?_
  rintro _ _ ⟨rfl, rfl⟩
  refine RS.nil ⟨(by repeat (first | exact List.Sublist.refl _ | exact List.nil_sublist _ | refine List.Sublist.cons_cons _ ?_ | refine List.Sublist.cons _ ?_ | exact Sbp.refl | exact Sbp.nil | refine Sbp.cons (by repeat (first | exact Rem.head | apply Rem.tail)) ?_ | exact Sbp.app | refine Sbp.skip ?_)), (by repeat (first | exact List.Sublist.refl _ | exact List.nil_sublist _ | refine List.Sublist.cons_cons _ ?_ | refine List.Sublist.cons _ ?_ | exact Sbp.refl | exact Sbp.nil | refine Sbp.cons (by repeat (first | exact Rem.head | apply Rem.tail)) ?_ | exact Sbp.app | refine Sbp.skip ?_)), ?_⟩
  refine RT2.take1 (i := 10) rfl (by kernel_rfl) rfl (QO.fieldAddr fo61_1 (by rfl)) ?_
  refine RT2.one (i := 8) (by kernel_rfl) rfl ?_
  refine RS.call rfl (by rfl) ok79 (by rfl) (fun w ho => rconvW dy _) ?_
  rintro _ _ ⟨rfl, rfl⟩
  refine RS.nil ⟨(by repeat (first | exact List.Sublist.refl _ | exact List.nil_sublist _ | refine List.Sublist.cons_cons _ ?_ | refine List.Sublist.cons _ ?_ | exact Sbp.refl | exact Sbp.nil | refine Sbp.cons (by repeat (first | exact Rem.head | apply Rem.tail)) ?_ | exact Sbp.app | refine Sbp.skip ?_)), (by repeat (first | exact List.Sublist.refl _ | exact List.nil_sublist _ | refine List.Sublist.cons_cons _ ?_ | refine List.Sublist.cons _ ?_ | exact Sbp.refl | exact Sbp.nil | refine Sbp.cons (by repeat (first | exact Rem.head | apply Rem.tail)) ?_ | exact Sbp.app | refine Sbp.skip ?_)), ?_⟩
  refine RT2.one (i := 9) (by kernel_rfl) rfl ?_
  refine RS.call rfl (by rfl) ok87 (by rfl) (fun w ho => raddK u.y dy _ hxy.2.2.1 hxy.2.2.2 (by omega)) ?_
  rintro _ _ ⟨rfl, rfl⟩
  refine RS.nil ⟨(by repeat (first | exact List.Sublist.refl _ | exact List.nil_sublist _ | refine List.Sublist.cons_cons _ ?_ | refine List.Sublist.cons _ ?_ | exact Sbp.refl | exact Sbp.nil | refine Sbp.cons (by repeat (first | exact Rem.head | apply Rem.tail)) ?_ | exact Sbp.app | refine Sbp.skip ?_)), (by repeat (first | exact List.Sublist.refl _ | exact List.nil_sublist _ | refine List.Sublist.cons_cons _ ?_ | refine List.Sublist.cons _ ?_ | exact Sbp.refl | exact Sbp.nil | refine Sbp.cons (by repeat (first | exact Rem.head | apply Rem.tail)) ?_ | exact Sbp.app | refine Sbp.skip ?_)), ?_⟩
  refine RT2.oneX (i := 11) (by kernel_rfl) rfl (by kernel_rfl) ?_
  refine RS.store1 ty29 rfl (by rfl) (by rfl) (by rfl) (by repeat (first | exact Upd.head | apply Upd.tail)) (by first | (simp; done) | (simp; omega) | omega) ?_
  refine RS.nil ⟨(by repeat (first | exact List.Sublist.refl _ | exact List.nil_sublist _ | refine List.Sublist.cons_cons _ ?_ | refine List.Sublist.cons _ ?_ | exact Sbp.refl | exact Sbp.nil | refine Sbp.cons (by repeat (first | exact Rem.head | apply Rem.tail)) ?_ | exact Sbp.app | refine Sbp.skip ?_)), ?_⟩
  refine RT2.take2 (i := 12) rfl (by kernel_rfl) rfl (QO.fieldAddr fo61_2 (by rfl)) ?_
  refine RT2.oneX (i := 13) (by kernel_rfl) rfl (by kernel_rfl) ?_
  refine RS.store1 ty29 rfl (by rfl) (by rfl) (by rfl) (by repeat (first | exact Upd.head | apply Upd.tail)) (by first | (simp; done) | (simp; omega) | omega) ?_
  refine RS.nil ⟨(by repeat (first | exact List.Sublist.refl _ | exact List.nil_sublist _ | refine List.Sublist.cons_cons _ ?_ | refine List.Sublist.cons _ ?_ | exact Sbp.refl | exact Sbp.nil | refine Sbp.cons (by repeat (first | exact Rem.head | apply Rem.tail)) ?_ | exact Sbp.app | refine Sbp.skip ?_)), ?_⟩
  refine RT2.done (by kernel_rfl) ?_
  refine thenC_n ?_
  refine CS.seq ?_
  refine CS.region ?_
  refine RS.q rfl (QO.fieldAddr fo61_6 (by rfl)) ?_
  first | (refine RS.q rfl (QO.load ty59 (by rfl) (by repeat (first | exact List.Mem.head _ | refine List.Mem.tail _ ?_)) (by rfl)) ?_) | (refine RS.q rfl (QO.loadO ty59 (by rfl) (by assumption)) ?_) | (refine RS.q rfl (QO.load ty59 (by rfl) (by repeat (first | exact List.Mem.head _ | refine List.Mem.tail _ ?_)) (by assumption)) ?_)
  refine RS.call rfl (by rfl) ok88 (by rfl) (fun w ho => cloneE1 A c u.pts _ hp) ?_
  rintro _ _ ⟨A2, c2, rfl, rfl⟩
  refine RS.q rfl (QO.fieldAddr fo61_6 (by rfl)) ?_
  refine RS.store1 ty59 rfl (by rfl) (by rfl) (by rfl) (by repeat (first | exact Upd.head | apply Upd.tail)) (by first | (simp; done) | (simp; omega) | omega) ?_
  refine RS.nil ?_
  refine thenC_n ?_
  refine CS.seq ?_
  refine CS.seq ?_
  refine CS.region ?_
  refine RS.q rfl (QO.fieldAddr fo61_6 (by rfl)) ?_
  first | (refine RS.q rfl (QO.load ty59 (by rfl) (by repeat (first | exact List.Mem.head _ | refine List.Mem.tail _ ?_)) (by rfl)) ?_) | (refine RS.q rfl (QO.loadO ty59 (by rfl) (by assumption)) ?_) | (refine RS.q rfl (QO.load ty59 (by rfl) (by repeat (first | exact List.Mem.head _ | refine List.Mem.tail _ ?_)) (by assumption)) ?_)
  refine RS.q rfl (QO.lenS Try.underlying59 (by rfl)) ?_
  refine RS.q rfl (QO.move) ?_
  refine RS.nil ?_
  refine thenC_n ?_
  refine CS.block ?_
  refine CS.loop (X := Unit) (9 :: 46 :: 47 :: 48 :: 49 :: 50 :: 51 :: 52 :: 53 :: 54 :: 55 :: 56 :: 57 :: 58 :: 59 :: 60 :: 61 :: 62 :: 63 :: 64 :: 65 :: 66 :: 67 :: 68 :: 69 :: []) (fun z => [(46, iv 0)]) (fun z => [⟨g6, 61, [iv 0, flt 0, flt 0, flt 0, flt 0, flt 0, .slice none 0 0, .bool false]⟩, ⟨g3, 61, [iv u.kind, flt (addV u.x dx), flt (addV u.y dy), flt u.w, flt u.h, flt u.soft, .slice A2 u.pts.length c2, .bool u.out]⟩]) (fun z => True) (fun z => 0) () trivial ?_ ?_ ?_
  · exact (by repeat (first | exact kn_nil | refine kn_cons (by rfl) ?_))
  · exact (by repeat (first | exact List.Sublist.refl _ | exact List.nil_sublist _ | refine List.Sublist.cons_cons _ ?_ | refine List.Sublist.cons _ ?_ | exact Sbp.refl | exact Sbp.nil | refine Sbp.cons (by repeat (first | exact Rem.head | apply Rem.tail)) ?_ | exact Sbp.app | refine Sbp.skip ?_))
  · intro z gj10 hz
    refine CS.seq ?_
    refine CS.region ?_
    refine RS.qv rfl (QO.lss (by rfl) (by rfl)) (congrArg Value.bool (show _ = false from decide_eq_false (by omega))) ?_
    refine RS.nil ?_
    refine thenC_n ?_
    refine CS.seq ?_
    refine CS.condF (by rfl) rfl ?_
    refine CS.exit ?_
    refine thenC_x ?_
    refine loopQ_x ?_
    refine blockC_x ?_
    refine thenC_n ?_
    refine CS.seq ?_
    refine CS.seq ?_
    refine CS.region ?_
    first | (refine RS.q rfl (QO.loadB ty61 (by rfl) (by repeat (first | exact List.Mem.head _ | refine List.Mem.tail _ ?_)) (by rfl)) ?_) | (refine RS.q rfl (QO.loadA ty61 (by rfl) (by repeat (first | exact List.Mem.head _ | refine List.Mem.tail _ ?_)) (by rfl) (by rfl)) ?_) | (refine RS.q rfl (QO.loadOA ty61 (by rfl) (by assumption) (by rfl)) ?_)
    refine RS.call rfl (by rfl) ok69 (by rfl) (fun w ho => windowErrorL (movNW u dx dy) A2 c2 u.pts.length _ rfl (by show PS _ A2 u.pts; rw [hp]; exact PS.nil) hm) ?_
    rintro _ _ ⟨rfl, rfl⟩
    refine RS.q rfl (QO.assign) ?_
    refine RS.nil ?_
    refine thenC_n ?_
    refine CS.seq ?_
    refine CS.region ?_
    refine RS.q rfl (QO.move) ?_
    refine RS.q rfl (QO.neq (by rfl) (by rfl)) ?_
    refine RS.nil ?_
    refine thenC_n ?_
    refine CS.cond (by rfl) (fun hb0 => ?_) (fun hb0 => ?_)
    · have hb0p := bne_iff_ne.1 hb0
      refine CS.seq ?_
      refine CS.region ?_
      refine RS.q rfl (QO.build ty61 pl61 (by rfl)) ?_
      refine RS.q rfl (QO.move) ?_
      first | refine RS.storeB ty61 (by rfl) (by rfl) (by rfl) (by rfl) (by rfl) (by repeat (first | exact Upd.head | apply Upd.tail)) (by rfl) ?_ | refine RS.storeP ty61 (by rfl) (by rfl) (by rfl) (by rfl) (by rfl) (by repeat (first | exact Upd.head | apply Upd.tail)) (by rfl) ?_
      refine RS.q rfl (QO.assign) ?_
      refine RS.nil ?_
      refine thenC_n ?_
      refine CS.ret ?_
      refine thenC_r ?_
      refine retQ.mk (H' := []) (.inr rfl) (RVs.cellA ty61 (by rfl) (by repeat (first | exact List.Mem.head _ | refine List.Mem.tail _ ?_)) (by rfl) (RVs.tmp (by rfl) RVs.nil)) (List.nil_sublist _) ?_
      exact ⟨none, 0, retZ (mov_bad he hx hy (movN hp (kind_N he hp)) (by assumption)).2 (mov_bad he hx hy (movN hp (kind_N he hp)) (by assumption)).1, ownZ (mov_bad he hx hy (movN hp (kind_N he hp)) (by assumption)).2⟩
    · have hb0p := of_bne_false hb0
      refine CS.skip ?_
      refine thenC_n ?_
      refine CS.seq ?_
      refine CS.region ?_
      first | (refine RS.q rfl (QO.loadB ty61 (by rfl) (by repeat (first | exact List.Mem.head _ | refine List.Mem.tail _ ?_)) (by rfl)) ?_) | (refine RS.q rfl (QO.loadA ty61 (by rfl) (by repeat (first | exact List.Mem.head _ | refine List.Mem.tail _ ?_)) (by rfl) (by rfl)) ?_) | (refine RS.q rfl (QO.loadOA ty61 (by rfl) (by assumption) (by rfl)) ?_)
      first | refine RS.storeB ty61 (by rfl) (by rfl) (by rfl) (by rfl) (by rfl) (by repeat (first | exact Upd.head | apply Upd.tail)) (by rfl) ?_ | refine RS.storeP ty61 (by rfl) (by rfl) (by rfl) (by rfl) (by rfl) (by repeat (first | exact Upd.head | apply Upd.tail)) (by rfl) ?_
      refine RS.q rfl (QO.assign) ?_
      refine RS.nil ?_
      refine thenC_n ?_
      refine CS.ret ?_
      refine retQ.mk (H' := []) (.inr rfl) (RVs.cellA ty61 (by rfl) (by repeat (first | exact List.Mem.head _ | refine List.Mem.tail _ ?_)) (by rfl) (RVs.tmp (by rfl) RVs.nil)) (List.nil_sublist _) ?_
      exact ⟨A2, c2, retM (m := movNW u dx dy) (mov_ok he hx hy (movN hp (kind_N he hp)) (by assumption)).2 (mov_ok he hx hy (movN hp (kind_N he hp)) (by assumption)).1 rfl, ownM (mov_ok he hx hy (movN hp (kind_N he hp)) (by assumption)).2 (by show OwnP A2 u.pts _; rw [hp]; exact OwnP.nil)⟩

set_option maxHeartbeats 4000000 in
set_option maxRecDepth 100000 in
theorem rmoved4 (u : Win) (A : Option Addr) (c : Nat) (dx dy : Int) (W : World) (hA : PS W A u.pts) (hm : u.pts.length ≤ maxLen) (he : winE u = 0) (hx : plcB dx = true) (hy : plcB dy = true) (hp : ¬ u.pts = []) : Fn_ Try.prog 29 #[.agg #[iv u.kind, flt u.x, flt u.y, flt u.w, flt u.h, flt u.soft, .slice A u.pts.length c, .bool u.out], iv dx, iv dy] W (fun v H => ∃ A2 c2, v = .tuple #[wV (movR u dx dy) A2 c2, iv (movE u dx dy)] ∧ OwnP A2 (movR u dx dy).pts H) := by
  have hdx := plcB_T hx
  have hdy := plcB_T hy
  have hl32 := (winE_pts he).1
  refine Fn_.intro Try.func29 rfl rfl (by rfl) ?_
  refine CS.seq ?_
  refine CS.region ?_
  refine RS.box rfl (by rfl) (by rfl) ?_
  intro g3
  refine RS.alloc rfl ty61 ?_
  intro g6
  refine RS.q rfl (QO.assign) ?_
  refine RS.nil ?_
  refine thenC_n ?_
  refine CS.seq ?_
  refine CS.seq ?_
  refine CS.region ?_
  first | (refine RS.q rfl (QO.loadB ty61 (by rfl) (by repeat (first | exact List.Mem.head _ | refine List.Mem.tail _ ?_)) (by rfl)) ?_) | (refine RS.q rfl (QO.loadA ty61 (by rfl) (by repeat (first | exact List.Mem.head _ | refine List.Mem.tail _ ?_)) (by rfl) (by rfl)) ?_) | (refine RS.q rfl (QO.loadOA ty61 (by rfl) (by assumption) (by rfl)) ?_)
  refine RS.call rfl (by rfl) ok69 (by rfl) (fun w ho => windowError u A c _ (hA.own ho) hm) ?_
  rintro _ _ ⟨rfl, rfl⟩
  refine RS.q rfl (QO.assign) ?_
  refine RS.nil ?_
  refine thenC_n ?_
  refine CS.seq ?_
  refine CS.region ?_
  refine RS.q rfl (QO.move) ?_
  refine RS.qv rfl (QO.neq (by rfl) (by rfl)) (congrArg Value.bool (show (winE u != 0) = false from by rw [he]; rfl)) ?_
  refine RS.nil ?_
  refine thenC_n ?_
  refine CS.condF (by rfl) rfl ?_
  refine CS.skip ?_
  refine thenC_n ?_
  refine CS.seq ?_
  refine CS.seq ?_
  refine CS.region ?_
  refine RS.q rfl (QO.move) ?_
  refine RS.call rfl (by rfl) ok86 (by rfl) (fun w ho => far1 dx _) ?_
  rintro _ _ ⟨rfl, rfl⟩
  refine RS.q rfl (QO.move) ?_
  refine RS.on (dj := 19) rfl (congrArg Value.bool (show (!plcB dx) = false by rw [hx]; rfl)) ?_
  refine RS.q rfl (QO.move) ?_
  refine RS.on (dj := 19) rfl (congrArg Value.bool (show (!plcB dx) = false by rw [hx]; rfl)) ?_
  refine RS.call rfl (by rfl) ok86 (by rfl) (fun w ho => far1 dy _) ?_
  rintro _ _ ⟨rfl, rfl⟩
  refine RS.q rfl (QO.pickF (by rfl) (show (!plcB dx) = false by rw [hx]; rfl) (by rfl)) ?_
  refine RS.nil ?_
  refine thenC_n ?_
  refine CS.condF (by rfl) (show (!plcB dy) = false by rw [hy]; rfl) ?_
  refine CS.skip ?_
  refine thenC_n ?_
  refine CS.seq ?_
  refine CS.seq ?_
  refine CS.region ?_
  refine RS.q rfl (QO.fieldAddr fo61_0 (by rfl)) ?_
  first | (refine RS.q rfl (QO.load ty3 (by rfl) (by repeat (first | exact List.Mem.head _ | refine List.Mem.tail _ ?_)) (by rfl)) ?_) | (refine RS.q rfl (QO.loadO ty3 (by rfl) (by assumption)) ?_) | (refine RS.q rfl (QO.load ty3 (by rfl) (by repeat (first | exact List.Mem.head _ | refine List.Mem.tail _ ?_)) (by assumption)) ?_)
  refine RS.qv rfl (QO.neq (by rfl) (by rfl)) (congrArg Value.bool (show (u.kind != 3) = false from by rw [kind_P he hp]; rfl)) ?_
  refine RS.nil ?_
  refine thenC_n ?_
  refine CS.condF (by rfl) rfl ?_
  refine CS.skip ?_
  refine thenC_n ?_
  refine CS.seq ?_
  refine CS.region ?_
  refine RS.q rfl (QO.fieldAddr fo61_6 (by rfl)) ?_
  first | (refine RS.q rfl (QO.load ty59 (by rfl) (by repeat (first | exact List.Mem.head _ | refine List.Mem.tail _ ?_)) (by rfl)) ?_) | (refine RS.q rfl (QO.loadO ty59 (by rfl) (by assumption)) ?_) | (refine RS.q rfl (QO.load ty59 (by rfl) (by repeat (first | exact List.Mem.head _ | refine List.Mem.tail _ ?_)) (by assumption)) ?_)
  refine RS.call rfl (by rfl) ok88 (by rfl) (fun w ho => cloneP A c u.pts _ (hA.own ho) (len_P hp) (by omega)) ?_
  rintro _ _ ⟨gp, cp, jk, rfl, rfl, hcp, hcpx⟩
  refine RS.q rfl (QO.fieldAddr fo61_6 (by rfl)) ?_
  refine RS.store1 ty59 rfl (by rfl) (by rfl) (by rfl) (by repeat (first | exact Upd.head | apply Upd.tail)) (by first | (simp; done) | (simp; omega) | omega) ?_
  refine RS.nil ?_
  refine thenC_n ?_
  refine CS.seq ?_
  refine CS.seq ?_
  refine CS.region ?_
  refine RS.q rfl (QO.fieldAddr fo61_6 (by rfl)) ?_
  first | (refine RS.q rfl (QO.load ty59 (by rfl) (by repeat (first | exact List.Mem.head _ | refine List.Mem.tail _ ?_)) (by rfl)) ?_) | (refine RS.q rfl (QO.loadO ty59 (by rfl) (by assumption)) ?_) | (refine RS.q rfl (QO.load ty59 (by rfl) (by repeat (first | exact List.Mem.head _ | refine List.Mem.tail _ ?_)) (by assumption)) ?_)
  refine RS.q rfl (QO.lenS Try.underlying59 (by rfl)) ?_
  refine RS.q rfl (QO.move) ?_
  refine RS.nil ?_
  refine thenC_n ?_
  refine CS.block ?_
  refine CS.loop (X := Nat) (9 :: 46 :: 47 :: 48 :: 49 :: 50 :: 51 :: 52 :: 53 :: 54 :: 55 :: 56 :: 57 :: 58 :: 59 :: 60 :: 61 :: 62 :: 63 :: 64 :: 65 :: 66 :: 67 :: 68 :: 69 :: []) (fun k => [(46, iv (k : Int))]) (fun k => [⟨gp, 31, psC (movPs u.pts dx dy k) ++ jk⟩, ⟨g6, 61, [iv 0, flt 0, flt 0, flt 0, flt 0, flt 0, .slice none 0 0, .bool false]⟩, ⟨g3, 61, [iv u.kind, flt u.x, flt u.y, flt u.w, flt u.h, flt u.soft, .slice (some ⟨gp, 0, none⟩) u.pts.length cp, .bool u.out]⟩]) (fun k => k ≤ u.pts.length) (fun k => u.pts.length - k) 0 (Nat.zero_le _) ?_ ?_ ?_
  · exact (by repeat (first | exact kn_nil | refine kn_cons (by rfl) ?_))
  · exact (by rw [movPs_0]; exact (by repeat (first | exact List.Sublist.refl _ | exact List.nil_sublist _ | refine List.Sublist.cons_cons _ ?_ | refine List.Sublist.cons _ ?_ | exact Sbp.refl | exact Sbp.nil | refine Sbp.cons (by repeat (first | exact Rem.head | apply Rem.tail)) ?_ | exact Sbp.app | refine Sbp.skip ?_)))
  · intro k gj10 hz
    refine CS.seq ?_
    refine CS.region ?_
    refine RS.q rfl (QO.lss (by rfl) (by rfl)) ?_
    refine RS.nil ?_
    refine thenC_n ?_
    refine CS.seq ?_
    refine CS.cond (by rfl) (fun hb0 => ?_) (fun hb0 => ?_)
    · have hb0p := of_decide_eq_true hb0
      refine CS.skip ?_
      refine thenC_n ?_
      refine CS.seq ?_
      refine CS.block ?_
      refine CS.seq ?_
      refine CS.region ?_
      refine RS.q rfl (QO.move) ?_
      refine RS.q rfl (QO.assign) ?_
      refine RS.nil ?_
      refine thenC_n ?_
      refine CS.seq ?_
      refine CS.region ?_
      refine RS.q rfl (QO.fieldAddr fo61_6 (by rfl)) ?_
      first | (refine RS.q rfl (QO.load ty59 (by rfl) (by repeat (first | exact List.Mem.head _ | refine List.Mem.tail _ ?_)) (by rfl)) ?_) | (refine RS.q rfl (QO.loadO ty59 (by rfl) (by assumption)) ?_) | (refine RS.q rfl (QO.load ty59 (by rfl) (by repeat (first | exact List.Mem.head _ | refine List.Mem.tail _ ?_)) (by assumption)) ?_)
      refine RS.q rfl (QO.move) ?_
      refine RS.qv rfl (QO.idx Try.underlying59 ty31 (by rfl) (by rfl) (by omega) (by omega)) (congrArg (fun o => Value.pointer (some ⟨gp, o, none⟩)) (show 0 + (k : Int).toNat * 2 = k * 2 by rw [Int.toNat_natCast]; omega)) ?_
      refine RS.q rfl (QO.fieldAddr fo31_0 (by rfl)) ?_
      have hpk := winE_place he (show k < u.pts.length by omega)
      refine RS.q rfl (QO.load ty3 (by rfl) (by repeat (first | exact List.Mem.head _ | refine List.Mem.tail _ ?_)) (mov_x (show k < u.pts.length by omega))) ?_
      refine RS.q rfl (QO.move) ?_
      first | (refine RS.q rfl (QO.add (by rfl) (by rfl) (by omega) (by omega)) ?_) | (refine RS.q rfl (QO.ibin (by rfl) (by rfl) trivial) ?_)
      refine RS.qv rfl (QO.idx Try.underlying59 ty31 (by rfl) (by rfl) (by omega) (by omega)) (congrArg (fun o => Value.pointer (some ⟨gp, o, none⟩)) (show 0 + (k : Int).toNat * 2 = k * 2 by rw [Int.toNat_natCast]; omega)) ?_
      refine RS.q rfl (QO.fieldAddr fo31_0 (by rfl)) ?_
      refine RS.store1e ty3 rfl (by rfl) (by rfl) (by rfl) (mov_sx _ (show k < u.pts.length by omega)) (by repeat (first | exact Upd.head | apply Upd.tail)) (by rw [List.length_append, psC_len, movPs_len]; omega) ?_
      refine RS.nil ?_
      refine thenC_n ?_
      refine CS.region ?_
      refine RS.q rfl (QO.fieldAddr fo61_6 (by rfl)) ?_
      first | (refine RS.q rfl (QO.load ty59 (by rfl) (by repeat (first | exact List.Mem.head _ | refine List.Mem.tail _ ?_)) (by rfl)) ?_) | (refine RS.q rfl (QO.loadO ty59 (by rfl) (by assumption)) ?_) | (refine RS.q rfl (QO.load ty59 (by rfl) (by repeat (first | exact List.Mem.head _ | refine List.Mem.tail _ ?_)) (by assumption)) ?_)
      refine RS.q rfl (QO.move) ?_
      refine RS.qv rfl (QO.idx Try.underlying59 ty31 (by rfl) (by rfl) (by omega) (by omega)) (congrArg (fun o => Value.pointer (some ⟨gp, o, none⟩)) (show 0 + (k : Int).toNat * 2 = k * 2 by rw [Int.toNat_natCast]; omega)) ?_
      refine RS.q rfl (QO.fieldAddr fo31_1 (by rfl)) ?_
      refine RS.q rfl (QO.load ty3 (by rfl) (by repeat (first | exact List.Mem.head _ | refine List.Mem.tail _ ?_)) (mov_y _ (show k < u.pts.length by omega))) ?_
      refine RS.q rfl (QO.move) ?_
      first | (refine RS.q rfl (QO.add (by rfl) (by rfl) (by omega) (by omega)) ?_) | (refine RS.q rfl (QO.ibin (by rfl) (by rfl) trivial) ?_)
      refine RS.qv rfl (QO.idx Try.underlying59 ty31 (by rfl) (by rfl) (by omega) (by omega)) (congrArg (fun o => Value.pointer (some ⟨gp, o, none⟩)) (show 0 + (k : Int).toNat * 2 = k * 2 by rw [Int.toNat_natCast]; omega)) ?_
      refine RS.q rfl (QO.fieldAddr fo31_1 (by rfl)) ?_
      refine RS.store1e ty3 rfl (by rfl) (by rfl) (by rfl) (mov_sy (show k < u.pts.length by omega)) (by repeat (first | exact Upd.head | apply Upd.tail)) (by rw [List.length_append, psC_len, ptx_len, movPs_len]; omega) ?_
      refine RS.nil ?_
      refine blockC_n ?_
      refine thenC_n ?_
      refine CS.region ?_
      first | (refine RS.q rfl (QO.add (by rfl) (by rfl) (by omega) (by omega)) ?_) | (refine RS.q rfl (QO.ibin (by rfl) (by rfl) trivial) ?_)
      refine RS.q rfl (QO.move) ?_
      refine RS.nil ?_
      refine loopQ_n (by intro t ht; repeat (first | with_reducible exact rfl | exact frame_puts ht (frame_mix ht) _ rfl | (refine frame_put rfl ht ?_) | (refine frame_puts ht ?_ _ rfl) | exact frame_mix ht | (refine frame_mix2 rfl ht ?_) | exact rfl)) ?_
      exact ⟨k + 1, by omega, by omega, (by repeat (first | exact kn_nil | refine kn_cons (by rfl) ?_)), (by repeat (first | exact List.Sublist.refl _ | exact List.nil_sublist _ | refine List.Sublist.cons_cons _ ?_ | refine List.Sublist.cons _ ?_ | exact Sbp.refl | exact Sbp.nil | refine Sbp.cons (by repeat (first | exact Rem.head | apply Rem.tail)) ?_ | exact Sbp.app | refine Sbp.skip ?_))⟩
    · have hb0p := of_decide_eq_false hb0
      refine CS.exit ?_
      refine thenC_x ?_
      refine loopQ_x ?_
      refine blockC_x ?_
      refine thenC_n ?_
      refine CS.seq ?_
      refine CS.seq ?_
      refine CS.region ?_
      first | (refine RS.q rfl (QO.loadB ty61 (by rfl) (by repeat (first | exact List.Mem.head _ | refine List.Mem.tail _ ?_)) (by rfl)) ?_) | (refine RS.q rfl (QO.loadA ty61 (by rfl) (by repeat (first | exact List.Mem.head _ | refine List.Mem.tail _ ?_)) (by rfl) (by rfl)) ?_) | (refine RS.q rfl (QO.loadOA ty61 (by rfl) (by assumption) (by rfl)) ?_)
      refine RS.call rfl (by rfl) ok69 (by rfl) (fun w ho => windowErrorL (movPW u dx dy k) (some ⟨gp, 0, none⟩) cp u.pts.length _ (movPs_len ..) (PS.blk (t := 31) (junk := jk) ho (by repeat (first | exact List.Mem.head _ | refine List.Mem.tail _ ?_))) hm) ?_
      rintro _ _ ⟨rfl, rfl⟩
      refine RS.q rfl (QO.assign) ?_
      refine RS.nil ?_
      refine thenC_n ?_
      refine CS.seq ?_
      refine CS.region ?_
      refine RS.q rfl (QO.move) ?_
      refine RS.q rfl (QO.neq (by rfl) (by rfl)) ?_
      refine RS.nil ?_
      refine thenC_n ?_
      refine CS.cond (by rfl) (fun hb1 => ?_) (fun hb1 => ?_)
      · have hb1p := bne_iff_ne.1 hb1
        refine CS.seq ?_
        refine CS.region ?_
        refine RS.q rfl (QO.build ty61 pl61 (by rfl)) ?_
        refine RS.q rfl (QO.move) ?_
        first | refine RS.storeB ty61 (by rfl) (by rfl) (by rfl) (by rfl) (by rfl) (by repeat (first | exact Upd.head | apply Upd.tail)) (by rfl) ?_ | refine RS.storeP ty61 (by rfl) (by rfl) (by rfl) (by rfl) (by rfl) (by repeat (first | exact Upd.head | apply Upd.tail)) (by rfl) ?_
        refine RS.q rfl (QO.assign) ?_
        refine RS.nil ?_
        refine thenC_n ?_
        refine CS.ret ?_
        refine thenC_r ?_
        refine retQ.mk (H' := []) (.inr rfl) (RVs.cellA ty61 (by rfl) (by repeat (first | exact List.Mem.head _ | refine List.Mem.tail _ ?_)) (by rfl) (RVs.tmp (by rfl) RVs.nil)) (List.nil_sublist _) ?_
        exact ⟨none, 0, retZ (mov_bad he hx hy (movPk (k := k) (kind_P he hp) (by omega)) (by assumption)).2 (mov_bad he hx hy (movPk (k := k) (kind_P he hp) (by omega)) (by assumption)).1, ownZ (mov_bad he hx hy (movPk (k := k) (kind_P he hp) (by omega)) (by assumption)).2⟩
      · have hb1p := of_bne_false hb1
        refine CS.skip ?_
        refine thenC_n ?_
        refine CS.seq ?_
        refine CS.region ?_
        first | (refine RS.q rfl (QO.loadB ty61 (by rfl) (by repeat (first | exact List.Mem.head _ | refine List.Mem.tail _ ?_)) (by rfl)) ?_) | (refine RS.q rfl (QO.loadA ty61 (by rfl) (by repeat (first | exact List.Mem.head _ | refine List.Mem.tail _ ?_)) (by rfl) (by rfl)) ?_) | (refine RS.q rfl (QO.loadOA ty61 (by rfl) (by assumption) (by rfl)) ?_)
        first | refine RS.storeB ty61 (by rfl) (by rfl) (by rfl) (by rfl) (by rfl) (by repeat (first | exact Upd.head | apply Upd.tail)) (by rfl) ?_ | refine RS.storeP ty61 (by rfl) (by rfl) (by rfl) (by rfl) (by rfl) (by repeat (first | exact Upd.head | apply Upd.tail)) (by rfl) ?_
        refine RS.q rfl (QO.assign) ?_
        refine RS.nil ?_
        refine thenC_n ?_
        refine CS.ret ?_
        refine retQ.mk (H' := [⟨gp, 31, psC (movPs u.pts dx dy k) ++ jk⟩]) (.inr rfl) (RVs.cellA ty61 (by rfl) (by repeat (first | exact List.Mem.head _ | refine List.Mem.tail _ ?_)) (by rfl) (RVs.tmp (by rfl) RVs.nil)) (by repeat (first | exact List.Sublist.refl _ | exact List.nil_sublist _ | refine List.Sublist.cons_cons _ ?_ | refine List.Sublist.cons _ ?_ | exact Sbp.refl | exact Sbp.nil | refine Sbp.cons (by repeat (first | exact Rem.head | apply Rem.tail)) ?_ | exact Sbp.app | refine Sbp.skip ?_)) ?_
        exact ⟨_, cp, retM (m := movPW u dx dy k) (mov_ok he hx hy (movPk (k := k) (kind_P he hp) (by omega)) (by assumption)).2 (mov_ok he hx hy (movPk (k := k) (kind_P he hp) (by omega)) (by assumption)).1 (movPs_len ..), ownM (mov_ok he hx hy (movPk (k := k) (kind_P he hp) (by omega)) (by assumption)).2 OwnP.blk⟩

theorem rmoved_ (u : Win) (A : Option Addr) (c : Nat) (dx dy : Int) (W : World) (hA : PS W A u.pts) (hm : u.pts.length ≤ maxLen) : Fn_ Try.prog 29 #[.agg #[iv u.kind, flt u.x, flt u.y, flt u.w, flt u.h, flt u.soft, .slice A u.pts.length c, .bool u.out], iv dx, iv dy] W (fun v H => ∃ A2 c2, v = .tuple #[wV (movR u dx dy) A2 c2, iv (movE u dx dy)] ∧ OwnP A2 (movR u dx dy).pts H) := by
  by_cases he : winE u = 0
  · cases hx : plcB dx with
    | false => exact rmoved1 u A c dx dy W hA hm he hx
    | true =>
      cases hy : plcB dy with
      | false => exact rmoved2 u A c dx dy W hA hm he hx hy
      | true =>
        by_cases hp : u.pts = []
        · exact rmoved3 u A c dx dy W hA hm he hx hy hp
        · exact rmoved4 u A c dx dy W hA hm he hx hy hp
  · exact rmoved0 u A c dx dy W hA hm he

end Go.Proofs.Ytapcgokcfmklbaa

namespace Go.Proofs.Ytapcgokcfmklbaa
open Go Go.RowKit

theorem psC_app : ∀ (l m : List (Int × Int)), psC (l ++ m) = psC l ++ psC m
  | [], _ => rfl
  | p :: l, m => by
    show iv p.1 :: iv p.2 :: psC (l ++ m) = iv p.1 :: iv p.2 :: (psC l ++ psC m)
    rw [psC_app l m]
/-- the first k points, mixed -/
def mixG (ps qs : List (Int × Int)) (t k : Nat) : List (Int × Int) := (List.range k).map fun i => mixP (ps.getD i (0, 0)) (qs.getD i (0, 0)) t
theorem mixG_len (ps qs : List (Int × Int)) (t k : Nat) : (mixG ps qs t k).length = k := by simp [mixG]
theorem mixG_suc (ps qs : List (Int × Int)) (t k : Nat) : psC (mixG ps qs t (k + 1)) = psC (mixG ps qs t k) ++ [iv (nearI (lerpV (cvF (ps.getD k (0, 0)).1) (cvF (qs.getD k (0, 0)).1) t)), iv (nearI (lerpV (cvF (ps.getD k (0, 0)).2) (cvF (qs.getD k (0, 0)).2) t))] := by
  unfold mixG
  rw [List.range_succ, List.map_append, psC_app]
  rfl
theorem mixG_all (ps qs : List (Int × Int)) (t : Nat) : mixG ps qs t ps.length = mixPs ps qs t ps.length := by
  refine pts_ext (by rw [mixG_len, mixPs_len]) fun i hi => ?_
  rw [mixG_len] at hi
  rw [mixPs_at hi, if_pos hi, List.getD_eq_getElem?_getD, mixG, List.getElem?_map, List.getElem?_range hi]; rfl
theorem rowOwn {vo : Value} {k t : Nat} {l : List (Int × Int)} {Hr : HL} (h : Row t 2 vo k (psC l) Hr) (hk : l.length = k) : ∃ A c, vo = .slice A k c ∧ OwnP A l Hr := by
  rcases Nat.eq_zero_or_pos k with h0 | h0
  · obtain ⟨A, c, h1, _⟩ := h.slice
    obtain rfl := List.eq_nil_of_length_eq_zero (hk.trans h0)
    exact ⟨A, c, h1, OwnP.nil⟩
  · obtain ⟨g, cap, junk, h1, h2, _⟩ := h.some h0
    exact ⟨_, _, h1, h2 ▸ OwnP.blk⟩
theorem mixEndV {u a b : Win} {tt n c : Nat} {A : Option Addr} {vo : Value} (hv : vo = .slice A n c) (h : u = mixW a b tt) (hn : n = a.pts.length) : Value.agg #[iv a.kind, flt (lerpV a.x b.x tt), flt (lerpV a.y b.y tt), flt (lerpV a.w b.w tt), flt (lerpV a.h b.h tt), flt (lerpV a.soft b.soft tt), vo, .bool a.out] = wV u A c := by
  subst hv hn; exact mixEnd1 h
theorem ownMixG {u a b : Win} {tt k : Nat} {A : Option Addr} {Hr : HL} (h : u = mixW a b tt) (hk : k = a.pts.length) (hO : OwnP A (mixG a.pts b.pts tt k) Hr) : OwnP A u.pts Hr := by
  subst hk
  rw [mixG_all] at hO
  rw [h]; exact hO
/-- points of the call's own, or of a key frame -/
def PtsOf (l : List KF) (A : Option Addr) (ps : List (Int × Int)) (H : HL) : Prop := OwnP A ps H ∨ ∃ j, j < l.length ∧ A = (l.getD j default).A ∧ ps = (l.getD j default).win.pts
theorem PtsOf.at_ {l : List KF} {A A0 : Option Addr} {ps : List (Int × Int)} {H H' : HL} {W w : World} (h : PtsOf l A ps H) (hA : KS w A0 l) (ho : Own W w H') (hs : Sbp H H') : PS w A ps := by
  rcases h with h | ⟨j, hj, rfl, rfl⟩
  · exact h.at_ ho hs
  · obtain ⟨_, _, _, _, h2⟩ := hA.at_ hj
    exact h2.1
theorem cell1Own {W w : World} {H : HL} {g t : Nat} {v : Value} (ho : Own W w H) (hm : (⟨g, t, [v]⟩ : B) ∈ H) : w.cell? ⟨g, 0, none⟩ = some v := cellOwn ho hm 0 v rfl
theorem idxK_1 {f : Int} {l : List KF} {k : Nat} (hk : k < l.length) (h : ∀ j, j < k → (l.getD j default).frame ≤ f) (h2 : f < (l.getD k default).frame) : (k : Int) = if cntK f l < l.length then (cntK f l : Int) else -1 := by
  rw [cntK_is (by omega) h (.inr h2), if_pos hk]
theorem idxK_2 {f : Int} {l : List KF} {k : Nat} (hk : k = l.length) (h : ∀ j, j < k → (l.getD j default).frame ≤ f) : (-1 : Int) = if cntK f l < l.length then (cntK f l : Int) else -1 := by
  rw [cntK_is (by omega) h (.inl hk), if_neg (by omega)]
theorem cntK_le (f : Int) : ∀ l : List KF, cntK f l ≤ l.length
  | [] => Nat.le_refl _
  | k :: l => by
    unfold cntK
    split
    · simpa using cntK_le f l
    · exact Nat.zero_le _
theorem cntK_lt (f : Int) : ∀ (l : List KF) (j : Nat), j < cntK f l → (l.getD j default).frame ≤ f
  | [], j, h => absurd h (Nat.not_lt_zero _)
  | k :: l, j, h => by
    unfold cntK at h
    split at h
    · rename_i hk
      match j with
      | 0 => exact hk
      | j + 1 => exact cntK_lt f l j (by omega)
    · exact absurd h (Nat.not_lt_zero _)
theorem cntK_gt (f : Int) : ∀ (l : List KF), cntK f l < l.length → f < (l.getD (cntK f l) default).frame
  | [], h => absurd h (Nat.not_lt_zero _)
  | k :: l, h => by
    unfold cntK at h ⊢
    split
    · rename_i hk
      rw [if_pos hk] at h
      exact cntK_gt f l (by simpa using h)
    · rename_i hk
      exact Int.not_le.1 hk
end Go.Proofs.Ytapcgokcfmklbaa
