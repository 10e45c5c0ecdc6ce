/-
  Regions that draw their order, with stores in the middle: 'HS': the blocks that stay as they are until an operation of X comes up, 'HT': those that stay throughout. No program in sight. Conditions: none.
-/
import Derived.Test.YtapcgokcfmklbaaDoorAny
namespace Go.Proofs.YtapcgokcfmklbaaDoor
open Go Go.RowKit

/-- none of X has come up -/
def noX (X : List Nat) (listed : Array Bool) : Bool := X.all fun x => !listed.getD x false
theorem noX_set {X : List Nat} {listed : Array Bool} {i : Nat} (h : noX X (listed.setIfInBounds i true) = true) : noX X listed = true := by
  unfold noX at *
  rw [List.all_eq_true] at h ⊢
  intro x hx
  have h1 := h x hx
  by_cases e : i = x
  · subst e
    rcases Nat.lt_or_ge i listed.size with hl | hl
    · simp [hl] at h1
    · simp [Array.getElem?_eq_none hl]
  · rw [getD_set_ne false e] at h1; exact h1
theorem noX_ne {X : List Nat} {listed : Array Bool} {j : Nat} (h : noX X listed = true) (hj : X.contains j = false) : noX X (listed.setIfInBounds j true) = true := by
  unfold noX at *
  rw [List.all_eq_true] at h ⊢
  intro x hx
  have h1 := h x hx
  have e : j ≠ x := fun e => by
    subst e
    have : X.contains j = true := by simpa using hx
    rw [this] at hj; cases hj
  rw [getD_set_ne false e]; exact h1
/-- Whatever order is picked from here on; behind each operation the world meets T, and S as long as none of X has come up. -/
def wpAny2 (P : Program) (ops : Array Oper) (Q : Exit → Act → World → Prop) (S T : World → Prop) (X : List Nat) : Nat → Array Bool → Act → World → Prop
  | 0, listed, a, w => Region.ready .any ops listed = [] ∧ Q .normal a w
  | fuel + 1, listed, a, w =>
    (Region.ready .any ops listed = [] → Q .normal a w) ∧
    ∀ i ∈ Region.ready .any ops listed, wpOp P ops Q i (fun a' w' => ((noX X (listed.setIfInBounds i true) = true → S w') ∧ T w') ∧ wpAny2 P ops Q S T X fuel (listed.setIfInBounds i true) a' w') a w
/-- each operation of X waits for i -/
def waitsX (ops : Array Oper) (X : List Nat) (i : Nat) : Bool := X.all fun j => match ops[j]? with
  | some o => o.after.any fun e => Region.binds .any e && e.on == i
  | none => true
section
variable {P : Program} {ops : Array Oper} {Q : Exit → Act → World → Prop} {S T : World → Prop} {X : List Nat}
theorem wpAny_of_2 : ∀ (fuel : Nat) (listed : Array Bool) (a : Act) (w : World), wpAny2 P ops Q S T X fuel listed a w → wpAny P .any ops Q fuel listed a w
  | 0, _, _, _, h => h
  | fuel + 1, _, _, _, h => ⟨h.1, fun i hi => wpOp_mono (fun _ _ h' => wpAny_of_2 fuel _ _ _ h'.2) (h.2 i hi)⟩
theorem waitsX_spec {i : Nat} (h : waitsX ops X i = true) {j : Nat} {o : Oper} (hj : ops[j]? = some o) (hx : X.contains j = true) : ∃ e ∈ o.after, Region.binds .any e = true ∧ e.on = i := by
  unfold waitsX at h
  have h1 := List.all_eq_true.1 h j (by simpa using hx)
  rw [hj] at h1
  obtain ⟨e, he, hb⟩ := Array.any_eq_true'.1 h1
  simp only [Bool.and_eq_true, beq_iff_eq] at hb
  exact ⟨e, he, hb.1, hb.2⟩
/-- What only reads may be taken first: 'V' is what its value leans on. -/
theorem wpAny2_first {i : Nat} {oi : Oper} {v : Value} {V : World → Prop} (hiX : X.contains i = false) (hi : ops[i]? = some oi) (hsel : ∀ (j : Nat) (o : Oper) cs b, ops[j]? = some o → o.op ≠ .select cs b)
    (hQ : ∀ c a w, Q (.panic c) (a.put oi.dst v) w → Q (.panic c) a w) :
    ∀ (fuel : Nat) (listed : Array Bool) (a : Act) (w : World), (V = T ∨ (V = S ∧ waitsX ops X i = true ∧ noX X listed = true)) →
      (∀ j oj, ops[j]? = some oj → j ≠ i → listed.getD j true = false → (∀ e ∈ oj.after, Region.binds .any e = true → e.on ≠ i) → oi.apart ops oj = true) →
      i ∈ Region.ready .any ops listed → YieldsIf P ops V oi v a → V w → (noX X listed = true → S w) → T w →
      wpAny2 P ops Q S T X fuel (listed.setIfInBounds i true) (a.put oi.dst v) w → wpAny2 P ops Q S T X (fuel + 1) listed a w := by
  intro fuel
  induction fuel with
  | zero =>
    intro listed a w _ _ hr hy hV hS hT H
    refine ⟨fun h => (by rw [h] at hr; cases hr), fun j hj => ?_⟩
    by_cases hji : j = i
    · subst hji; exact hy.wpOp hi hV ⟨⟨fun h => hS (noX_set h), hT⟩, H⟩
    · have := ready_mono hj hji
      rw [H.1] at this
      cases this
  | succ fuel ih =>
    intro listed a w hk hfree hr hy hV hS hT H
    refine ⟨fun h => (by rw [h] at hr; cases hr), fun j hj => ?_⟩
    by_cases hji : j = i
    · subst hji; exact hy.wpOp hi hV ⟨⟨fun h => hS (noX_set h), hT⟩, H⟩
    · have h1 := H.2 j (ready_mono hj hji)
      obtain ⟨hjun, oj, hoj, hall⟩ := mem_ready.1 hj
      have hnot : ∀ e ∈ oj.after, Region.binds .any e = true → e.on ≠ i := fun e he hb heq => by
        have h1 := hall e he hb
        have h0 := (mem_ready.1 hr).1
        rw [heq] at h1
        rcases Nat.lt_or_ge i listed.size with h' | h'
        · simp [h'] at h0 h1; rw [h0] at h1; cases h1
        · simp [Array.getElem?_eq_none h'] at h1
      have h2 := wpOp_putIf hoj (hfree j oj hoj hji hjun hnot) (fun cs b => hsel i oi cs b hi) (fun cs b => hsel j oj cs b hoj) hQ hy h1
      have hfree' : ∀ q ok, ops[q]? = some ok → q ≠ i → (listed.setIfInBounds j true).getD q true = false →
          (∀ e ∈ ok.after, Region.binds .any e = true → e.on ≠ i) → oi.apart ops ok = true := fun q ok hq hqi hun hno => by
        refine hfree q ok hq hqi ?_ hno
        by_cases hjq : j = q
        · subst hjq; exact hjun
        · rw [getD_set_ne true hjq] at hun; exact hun
      have hkj : V = T ∨ (V = S ∧ waitsX ops X i = true ∧ noX X (listed.setIfInBounds j true) = true) := by
        rcases hk with hk | ⟨hk, hw, hn⟩
        · exact .inl hk
        · refine .inr ⟨hk, hw, noX_ne hn ?_⟩
          cases hx : X.contains j with
          | false => rfl
          | true =>
            obtain ⟨e, he, hb, ho⟩ := waitsX_spec hw hoj hx
            exact absurd ho (hnot e he hb)
      have hcomm : (listed.setIfInBounds i true).setIfInBounds j true = (listed.setIfInBounds j true).setIfInBounds i true := Array.setIfInBounds_comm _ _ (Ne.symm hji)
      refine wpOp_mono (fun a' w' h3 => ?_) h2
      obtain ⟨hy', ⟨hS', hT'⟩, hW'⟩ := h3
      rw [hcomm] at hS' hW'
      have hSj : noX X (listed.setIfInBounds j true) = true → S w' := fun h => hS' (noX_ne h hiX)
      have hVj : V w' := by
        rcases hkj with hk | ⟨hk, _, hn⟩
        · rw [hk]; exact hT'
        · rw [hk]; exact hSj hn
      exact ⟨⟨hSj, hT'⟩, ih (listed.setIfInBounds j true) a' w' hkj hfree' (ready_mono hr (Ne.symm hji)) hy' hVj hSj hT' hW'⟩
end
/-! ### in the calculus -/
def RT2 (P : Program) (W : World) (n : Nat) (ops : Array Oper) (X : List Nat) (HS HT : HL) (Q : Env → HL → Prop) (fuel : Nat) (listed : Array Bool) (e : Env) (H : HL) : Prop :=
  Region.noSelect ops = true → (noX X listed = true → HS.Sublist H) → HT.Sublist H → ∀ a w, Rep n a e → Own W w H → wpAny2 P ops (PostN W n Q) (fun w => Own W w HS) (fun w => Own W w HT) X fuel listed a w
section
variable {P : Program} {W : World} {n : Nat} {ops : Array Oper} {X : List Nat} {HS HT H : HL} {Q : Env → HL → Prop} {fuel : Nat} {listed : Array Bool} {e : Env}
variable {d : Tmp} {op : Op} {ty : TypeId} {pos : String} {af : Array Edge} {v : Value} {i j : Nat}
theorem RT2.done (hr : Region.ready .any ops listed = []) (h : Q e H) : RT2 P W n ops X HS HT Q fuel listed e H := by
  intro _ _ _ a w hrep ho
  have hp : PostN W n Q .normal a w := ⟨e, H, hrep, ho, h⟩
  cases fuel with
  | zero => exact ⟨hr, hp⟩
  | succ f => exact ⟨fun _ => hp, by rw [hr]; simp⟩
def take2OK (ops : Array Oper) (X : List Nat) (listed : Array Bool) (i : Nat) : Bool := !X.contains i && Region.free .any ops listed i && (Region.ready .any ops listed).contains i
def take1OK (ops : Array Oper) (X : List Nat) (listed : Array Bool) (i : Nat) : Bool := take2OK ops X listed i && waitsX ops X i && noX X listed
/-- a reading of what stands until X -/
theorem RT2.take1 (hi : ops[i]? = some ⟨some d, op, ty, pos, af, none⟩) (hc : take1OK ops X listed i = true) (hd : Nat.blt d n = true) (hq : QO P W HS e op ty v)
    (h : RT2 P W n ops X HS HT Q fuel (listed.setIfInBounds i true) (put e d v) H) : RT2 P W n ops X HS HT Q (fuel + 1) listed e H := by
  intro hs hS hT a w hrep ho
  simp only [take1OK, take2OK, Bool.and_eq_true, Bool.not_eq_true'] at hc
  obtain ⟨⟨⟨⟨hx, hf⟩, hr⟩, hw⟩, hn⟩ := hc
  refine wpAny2_first (V := fun w => Own W w HS) (v := v) hx hi (Region.noSelect_spec hs) hQpanic fuel listed a w (.inr ⟨rfl, hw, hn⟩) (Region.free_spec hi hf) (by simpa using hr) ?_ (ho.sub (hS hn)) (fun h => ho.sub (hS h)) (ho.sub hT) (h hs (fun hh => hS (noX_set hh)) hT _ _ (hrep.put (d := some d) hd v) ho)
  refine .inl ⟨rfl, fun w' hw' => ?_⟩
  rw [hrep.eval]
  exact hq _ _ _ _ w' hw'
theorem RT2.take1v {v' : Value} (hi : ops[i]? = some ⟨some d, op, ty, pos, af, none⟩) (hc : take1OK ops X listed i = true) (hd : Nat.blt d n = true) (hq : QO P W HS e op ty v) (hv : v = v')
    (h : RT2 P W n ops X HS HT Q fuel (listed.setIfInBounds i true) (put e d v') H) : RT2 P W n ops X HS HT Q (fuel + 1) listed e H := by subst hv; exact RT2.take1 hi hc hd hq h
/-- a reading of what stands throughout -/
theorem RT2.take2 (hi : ops[i]? = some ⟨some d, op, ty, pos, af, none⟩) (hc : take2OK ops X listed i = true) (hd : Nat.blt d n = true) (hq : QO P W HT e op ty v)
    (h : RT2 P W n ops X HS HT Q fuel (listed.setIfInBounds i true) (put e d v) H) : RT2 P W n ops X HS HT Q (fuel + 1) listed e H := by
  intro hs hS hT a w hrep ho
  simp only [take2OK, Bool.and_eq_true, Bool.not_eq_true'] at hc
  obtain ⟨⟨hx, hf⟩, hr⟩ := hc
  refine wpAny2_first (V := fun w => Own W w HT) (v := v) hx hi (Region.noSelect_spec hs) hQpanic fuel listed a w (.inl rfl) (Region.free_spec hi hf) (by simpa using hr) ?_ (ho.sub hT) (fun h => ho.sub (hS h)) (ho.sub hT) (h hs (fun hh => hS (noX_set hh)) hT _ _ (hrep.put (d := some d) hd v) ho)
  refine .inl ⟨rfl, fun w' hw' => ?_⟩
  rw [hrep.eval]
  exact hq _ _ _ _ w' hw'
theorem RT2.take2v {v' : Value} (hi : ops[i]? = some ⟨some d, op, ty, pos, af, none⟩) (hc : take2OK ops X listed i = true) (hd : Nat.blt d n = true) (hq : QO P W HT e op ty v) (hv : v = v')
    (h : RT2 P W n ops X HS HT Q fuel (listed.setIfInBounds i true) (put e d v') H) : RT2 P W n ops X HS HT Q (fuel + 1) listed e H := by subst hv; exact RT2.take2 hi hc hd hq h
/-- the only one that may come up, before X -/
theorem RT2.one {o : Oper} (hr : Region.ready .any ops listed = [i]) (hi : ops[i]? = some o)
    (h : RS P W n ops (fun e' H' => HS.Sublist H' ∧ HT.Sublist H' ∧ RT2 P W n ops X HS HT Q fuel (listed.setIfInBounds i true) e' H') [o] e H) :
    RT2 P W n ops X HS HT Q (fuel + 1) listed e H := by
  intro hs hS hT a w hrep ho
  refine ⟨fun h0 => (by rw [hr] at h0; cases h0), fun q hq => ?_⟩
  rw [hr] at hq
  obtain rfl : q = i := by simpa using hq
  exact wpOp_mono (fun a' w' ⟨e', H', h1, h2, h3, h4, h5⟩ => ⟨⟨fun _ => h2.sub h3, h2.sub h4⟩, h5 hs (fun _ => h3) h4 a' w' h1 h2⟩) (wpOp_of_RS hi h hrep ho)
/-- the only one that may come up, of X or behind it -/
theorem RT2.oneX {o : Oper} (hr : Region.ready .any ops listed = [i]) (hi : ops[i]? = some o) (hx : noX X (listed.setIfInBounds i true) = false)
    (h : RS P W n ops (fun e' H' => HT.Sublist H' ∧ RT2 P W n ops X HS HT Q fuel (listed.setIfInBounds i true) e' H') [o] e H) :
    RT2 P W n ops X HS HT Q (fuel + 1) listed e H := by
  intro hs hS hT a w hrep ho
  refine ⟨fun h0 => (by rw [hr] at h0; cases h0), fun q hq => ?_⟩
  rw [hr] at hq
  obtain rfl : q = i := by simpa using hq
  exact wpOp_mono (fun a' w' ⟨e', H', h1, h2, h4, h5⟩ => ⟨⟨fun h => (by rw [hx] at h; cases h), h2.sub h4⟩, h5 hs (fun h => (by rw [hx] at h; cases h)) h4 a' w' h1 h2⟩) (wpOp_of_RS hi h hrep ho)
theorem CS.draw2 {l : List Oper} {id : Nat} {Q : Exit → Env → HL → Prop} (X : List Nat) {HT : HL} (hT : HT.Sublist H) (hm : P.follows .mixedOrders = true) (hs : Region.noSelect l.toArray = true)
    (h : RT2 P W n l.toArray X H HT (fun e H => Q .normal e H) l.length (Array.replicate l.length false) e H) : CS P W n (.region id l.toArray true) Q e H := by
  intro a w hr ho
  refine wp_mono (Q := PostN W n (fun e H => Q .normal e H)) (wp_region_any hm ?_) fun x a' w' hq => ?_
  · have := h hs (fun _ => List.Sublist.refl _) hT a w.drew hr ho.drew
    exact wpAny_of_2 _ _ _ _ this
  · cases x <;> simp only [PostN] at hq
    exact hq
end
end Go.Proofs.YtapcgokcfmklbaaDoor
