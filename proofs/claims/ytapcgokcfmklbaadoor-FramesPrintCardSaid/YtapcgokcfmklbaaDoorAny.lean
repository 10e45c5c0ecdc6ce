/-
  Regions that draw their order: what only reads is taken first, the rest in whatever order may come. No program in sight. Conditions: none.
-/
import Derived.Test.YtapcgokcfmklbaaDoorEntry
import Derived.OrdersHeld
namespace Go.Proofs.YtapcgokcfmklbaaDoor
open Go Go.RowKit

/-- Whatever order is picked from here on; behind each operation below k the world meets S. -/
def wpAnyT (P : Program) (ops : Array Oper) (Q : Exit → Act → World → Prop) (S : World → Prop) (k : Nat) : Nat → Array Bool → Act → World → Prop
  | 0, listed, a, w => Region.ready .any ops listed = [] ∧ Q .normal a w
  | fuel + 1, listed, a, w =>
    (Region.ready .any ops listed = [] → Q .normal a w) ∧
    ∀ i ∈ Region.ready .any ops listed, wpOp P ops Q i (fun a' w' => (i < k → S w') ∧ wpAnyT P ops Q S k fuel (listed.setIfInBounds i true) a' w') a w
section
variable {P : Program} {ops : Array Oper} {Q : Exit → Act → World → Prop} {S S' : World → Prop} {k : Nat}
theorem wpAny_of_T : ∀ (fuel : Nat) (listed : Array Bool) (a : Act) (w : World), wpAnyT P ops Q S k fuel listed a w → wpAny P .any ops Q fuel listed a w
  | 0, _, _, _, h => h
  | fuel + 1, _, _, _, h => ⟨h.1, fun i hi => wpOp_mono (fun _ _ h' => wpAny_of_T fuel _ _ _ h'.2) (h.2 i hi)⟩
theorem wpAnyT_mono (hS : ∀ w, S w → S' w) : ∀ (fuel : Nat) (listed : Array Bool) (a : Act) (w : World), wpAnyT P ops Q S k fuel listed a w → wpAnyT P ops Q S' k fuel listed a w
  | 0, _, _, _, h => h
  | fuel + 1, _, _, _, h => ⟨h.1, fun i hi => wpOp_mono (fun _ _ h' => ⟨fun hk => hS _ (h'.1 hk), wpAnyT_mono hS fuel _ _ _ h'.2⟩) (h.2 i hi)⟩
/-- Each operation from k on waits for each one below k. -/
def tailW (ops : Array Oper) (k : Nat) : Bool :=
  (List.range ops.size).all fun j => Nat.blt j k || match ops[j]? with
    | some o => (List.range k).all fun i => o.after.any fun e => Region.binds .any e && e.on == i
    | none => true
theorem tailW_spec (h : tailW ops k = true) {i j : Nat} {o : Oper} (hj : ops[j]? = some o) (hk : k ≤ j) (hi : i < k) : ∃ e ∈ o.after, Region.binds .any e = true ∧ e.on = i := by
  unfold tailW at h
  have hlt : j < ops.size := (Array.getElem?_eq_some_iff.1 hj).1
  have h1 := List.all_eq_true.1 h j (List.mem_range.2 hlt)
  have h2 : Nat.blt j k = false := by
    cases hb : Nat.blt j k with
    | false => rfl
    | true => have : j < k := by simpa using hb
              omega
  simp only [h2, Bool.false_or, hj] at h1
  have h3 := List.all_eq_true.1 h1 i (List.mem_range.2 hi)
  obtain ⟨e, he, hb⟩ := Array.any_eq_true'.1 h3
  simp only [Bool.and_eq_true, beq_iff_eq] at hb
  exact ⟨e, he, hb.1, hb.2⟩
/-- What only reads may be taken first. -/
theorem wpAnyT_first {i : Nat} {oi : Oper} {v : Value} (htw : tailW ops k = true) (hik : i < k) (hi : ops[i]? = some oi) (hsel : ∀ (j : Nat) (o : Oper) cs b, ops[j]? = some o → o.op ≠ .select cs b)
    (hQ : ∀ c a w, Q (.panic c) (a.put oi.dst v) w → Q (.panic c) a w) :
    ∀ (fuel : Nat) (listed : Array Bool) (a : Act) (w : World),
      (∀ j oj, ops[j]? = some oj → j ≠ i → listed.getD j true = false → (∀ e ∈ oj.after, Region.binds .any e = true → e.on ≠ i) → oi.apart ops oj = true) →
      i ∈ Region.ready .any ops listed → YieldsIf P ops S oi v a → S w →
      wpAnyT P ops Q S k fuel (listed.setIfInBounds i true) (a.put oi.dst v) w → wpAnyT P ops Q S k (fuel + 1) listed a w := by
  intro fuel
  induction fuel with
  | zero =>
    intro listed a w _ hr hy hS H
    refine ⟨fun h => (by rw [h] at hr; cases hr), fun j hj => ?_⟩
    by_cases hji : j = i
    · subst hji; exact hy.wpOp hi hS ⟨fun _ => hS, H⟩
    · have := ready_mono hj hji
      rw [H.1] at this
      cases this
  | succ fuel ih =>
    intro listed a w hfree hr hy hS H
    refine ⟨fun h => (by rw [h] at hr; cases hr), fun j hj => ?_⟩
    by_cases hji : j = i
    · subst hji; exact hy.wpOp hi hS ⟨fun _ => hS, H⟩
    · have h1 := H.2 j (ready_mono hj hji)
      obtain ⟨hjun, oj, hoj, hall⟩ := mem_ready.1 hj
      have hnot : ∀ e ∈ oj.after, Region.binds .any e = true → e.on ≠ i := fun e he hb heq => by
        have h1 := hall e he hb
        have h0 := (mem_ready.1 hr).1
        rw [heq] at h1
        rcases Nat.lt_or_ge i listed.size with h' | h'
        · simp [h'] at h0 h1; rw [h0] at h1; cases h1
        · simp [Array.getElem?_eq_none h'] at h1
      have hjk : j < k := by
        rcases Nat.lt_or_ge j k with h' | h'
        · exact h'
        · obtain ⟨e, he, hb, ho⟩ := tailW_spec htw hoj h' hik
          exact absurd ho (hnot e he hb)
      have h2 := wpOp_putIf hoj (hfree j oj hoj hji hjun hnot) (fun cs b => hsel i oi cs b hi) (fun cs b => hsel j oj cs b hoj) hQ hy h1
      have hfree' : ∀ q ok, ops[q]? = some ok → q ≠ i → (listed.setIfInBounds j true).getD q true = false →
          (∀ e ∈ ok.after, Region.binds .any e = true → e.on ≠ i) → oi.apart ops ok = true := fun q ok hq hqi hun hno => by
        refine hfree q ok hq hqi ?_ hno
        by_cases hjq : j = q
        · subst hjq; exact hjun
        · rw [getD_set_ne true hjq] at hun; exact hun
      refine wpOp_mono (fun a' w' h3 => ⟨h3.2.1, ih (listed.setIfInBounds j true) a' w' hfree' (ready_mono hr (Ne.symm hji)) h3.1 (h3.2.1 hjk) ?_⟩) h2
      rw [Array.setIfInBounds_comm _ _ hji]
      exact h3.2.2
end

/-! ### in the calculus -/
/-- The region's operations that have not come up, in whatever order: 'HS': the blocks that stay as they are till the tail. -/
def RT (P : Program) (W : World) (n : Nat) (ops : Array Oper) (k : Nat) (HS : HL) (Q : Env → HL → Prop) (fuel : Nat) (listed : Array Bool) (e : Env) (H : HL) : Prop :=
  tailW ops k = true → Region.noSelect ops = true → HS.Sublist H → ∀ a w, Rep n a e → Own W w H → wpAnyT P ops (PostN W n Q) (fun w => Own W w HS) k fuel listed a w
section
variable {P : Program} {W : World} {n : Nat} {ops : Array Oper} {k : Nat} {HS H : HL} {Q : Env → HL → Prop} {fuel : Nat} {listed : Array Bool} {e : Env}
variable {d : Tmp} {op : Op} {ty : TypeId} {pos : String} {af : Array Edge} {v : Value} {i j : Nat}
theorem hQpanic {dst : Option Tmp} {v : Value} : ∀ c a w, PostN W n Q (.panic c) (a.put dst v) w → PostN W n Q (.panic c) a w := fun _ _ _ h => h
theorem RT.done (hr : Region.ready .any ops listed = []) (h : Q e H) : RT P W n ops k HS Q fuel listed e H := by
  intro _ _ _ a w hrep ho
  have hp : PostN W n Q .normal a w := ⟨e, H, hrep, ho, h⟩
  cases fuel with
  | zero => exact ⟨hr, hp⟩
  | succ f => exact ⟨fun _ => hp, by rw [hr]; simp⟩
/-- may be taken now, and first -/
def takeOK (ops : Array Oper) (k : Nat) (listed : Array Bool) (i : Nat) : Bool := Nat.blt i k && Region.free .any ops listed i && (Region.ready .any ops listed).contains i
theorem RT.take (hi : ops[i]? = some ⟨some d, op, ty, pos, af, none⟩) (hc : takeOK ops k listed i = true) (hd : Nat.blt d n = true) (hq : QO P W HS e op ty v)
    (h : RT P W n ops k HS Q fuel (listed.setIfInBounds i true) (put e d v) H) : RT P W n ops k HS Q (fuel + 1) listed e H := by
  intro ht hs hsub a w hrep ho
  simp only [takeOK, Bool.and_eq_true] at hc
  obtain ⟨⟨hk, hf⟩, hr⟩ := hc
  refine wpAnyT_first (v := v) ht (by simpa using hk) hi (Region.noSelect_spec hs) hQpanic fuel listed a w (Region.free_spec hi hf) (by simpa using hr) ?_ (ho.sub hsub) (h ht hs hsub _ _ (hrep.put (d := some d) hd v) ho)
  refine .inl ⟨rfl, fun w' hw' => ?_⟩
  rw [hrep.eval]
  exact hq _ _ _ _ w' hw'
theorem RT.takev {v' : Value} (hi : ops[i]? = some ⟨some d, op, ty, pos, af, none⟩) (hc : takeOK ops k listed i = true) (hd : Nat.blt d n = true) (hq : QO P W HS e op ty v) (hv : v = v')
    (h : RT P W n ops k HS Q fuel (listed.setIfInBounds i true) (put e d v') H) : RT P W n ops k HS Q (fuel + 1) listed e H := by subst hv; exact RT.take hi hc hd hq h
/-- a guarded operation that runs -/
theorem RT.takeOn {b : Bool} {dj : Tmp} (hi : ops[i]? = some ⟨some d, op, ty, pos, af, some (j, b)⟩) (hj : (ops[j]?).bind (·.dst) = some dj) (hv : e dj = .bool b) (hc : takeOK ops k listed i = true) (hd : Nat.blt d n = true) (hq : QO P W HS e op ty v)
    (h : RT P W n ops k HS Q fuel (listed.setIfInBounds i true) (put e d v) H) : RT P W n ops k HS Q (fuel + 1) listed e H := by
  intro ht hs hsub a w hrep ho
  simp only [takeOK, Bool.and_eq_true] at hc
  obtain ⟨⟨hk, hf⟩, hr⟩ := hc
  refine wpAnyT_first (v := v) ht (by simpa using hk) hi (Region.noSelect_spec hs) hQpanic fuel listed a w (Region.free_spec hi hf) (by simpa using hr) ?_ (ho.sub hsub) (h ht hs hsub _ _ (hrep.put (d := some d) hd v) ho)
  refine .inl ⟨?_, fun w' hw' => ?_⟩
  · have hg := hrep.get dj
    rw [hv] at hg
    have hs : dj < a.tmps.size := by
      rcases Nat.lt_or_ge dj a.tmps.size with h' | h'
      · exact h'
      · simp [Array.getD, Nat.not_lt.2 h', undef] at hg
    simp [Array.getD, hs] at hg
    simp [Region.wanted, yielded, hj, hs, hg]
  · rw [hrep.eval]
    exact hq _ _ _ _ w' hw'
/-- a guarded operation that does not run -/
theorem RT.takeOnv {b : Bool} {dj : Tmp} {v' : Value} (hi : ops[i]? = some ⟨some d, op, ty, pos, af, some (j, b)⟩) (hj : (ops[j]?).bind (·.dst) = some dj) (hv : e dj = .bool b) (hc : takeOK ops k listed i = true) (hd : Nat.blt d n = true) (hq : QO P W HS e op ty v) (hvv : v = v')
    (h : RT P W n ops k HS Q fuel (listed.setIfInBounds i true) (put e d v') H) : RT P W n ops k HS Q (fuel + 1) listed e H := by subst hvv; exact RT.takeOn hi hj hv hc hd hq h
theorem RT.takeOff {b c : Bool} {dj : Tmp} (hi : ops[i]? = some ⟨some d, op, ty, pos, af, some (j, b)⟩) (hj : (ops[j]?).bind (·.dst) = some dj) (hv : e dj = .bool c ∨ e dj = undef) (hbc : e dj = .bool c → c = !b) (hc : takeOK ops k listed i = true) (hd : Nat.blt d n = true)
    (h : RT P W n ops k HS Q fuel (listed.setIfInBounds i true) (put e d undef) H) : RT P W n ops k HS Q (fuel + 1) listed e H := by
  intro ht hs hsub a w hrep ho
  simp only [takeOK, Bool.and_eq_true] at hc
  obtain ⟨⟨hk, hf⟩, hr⟩ := hc
  refine wpAnyT_first (v := undef) ht (by simpa using hk) hi (Region.noSelect_spec hs) hQpanic fuel listed a w (Region.free_spec hi hf) (by simpa using hr) ?_ (ho.sub hsub) (h ht hs hsub _ _ (hrep.put (d := some d) hd undef) ho)
  refine .inr ⟨?_, rfl⟩
  have hg := hrep.get dj
  by_cases hs : dj < a.tmps.size
  · simp [Array.getD, hs] at hg
    rcases hv with hv | hv
    · have := hbc hv
      subst this
      rw [hv] at hg
      simp [Region.wanted, yielded, hj, hs, hg]
    · rw [hv] at hg
      simp [Region.wanted, yielded, hj, hs, hg, undef]
  · simp [Region.wanted, yielded, hj, hs]
theorem RT.split {dj : Tmp} {b : Bool} (_ : e dj = .bool b) (ht : b = true → RT P W n ops k HS Q fuel listed e H) (hf : b = false → RT P W n ops k HS Q fuel listed e H) : RT P W n ops k HS Q fuel listed e H := by
  cases b
  · exact hf rfl
  · exact ht rfl
/-- what one operation comes to, by the lemmas for a list of one -/
theorem wpOp_of_RS {o : Oper} {X : Env → HL → Prop} (hi : ops[i]? = some o) (h : RS P W n ops X [o] e H) {a : Act} {w : World} (hrep : Rep n a e) (ho : Own W w H) :
    wpOp P ops (PostN W n Q) i (fun a' w' => ∃ e' H', Rep n a' e' ∧ Own W w' H' ∧ X e' H') a w := by
  have h1 := h a w hrep ho
  unfold wpOp
  simp only [hi]
  simp only [wpList] at h1
  have post : ∀ (x : Exit) a' w', PostN W n X x a' w' → x ≠ .normal → False := by
    intro x a' w' hp hx
    cases x <;> simp only [PostN] at hp
    exact hx rfl
  split
  · rename_i hw
    simp only [hw, if_true] at h1
    rcases h1 with h1 | ⟨_, a0, w0, h1⟩
    · left
      unfold Oper.wp at *
      generalize (execOp a.eval o).run P w = r at *
      cases r with
      | ok nx w' =>
        cases nx <;> simp only [Oper.upon] at h1 ⊢
        case value u => exact h1
        case skip => exact h1
        case defer d => exact h1
        case enter f args =>
          refine Calls.mono h1 fun x w'' hx => ?_
          cases x with
          | returned u => exact hx
          | panicked c => exact (post _ _ _ hx (by simp)).elim
          | outgrown => obtain ⟨a1, w1, hx⟩ := hx; exact (post _ _ _ hx (by simp)).elim
        case row row args => exact h1
      | halt x w' => cases x <;> simp only [Oper.upon] at h1 ⊢ <;> exact (post _ _ _ h1 (by simp)).elim
    · exact (post _ _ _ h1 (by simp)).elim
  · rename_i hw
    simp only [hw] at h1
    exact h1
/-- the only one that may come up -/
theorem RT.one {o : Oper} (hr : Region.ready .any ops listed = [i]) (hk : Nat.blt i k = true) (hi : ops[i]? = some o)
    (h : RS P W n ops (fun e' H' => HS.Sublist H' ∧ RT P W n ops k HS Q fuel (listed.setIfInBounds i true) e' H') [o] e H) :
    RT P W n ops k HS Q (fuel + 1) listed e H := by
  intro ht hs hsub a w hrep ho
  refine ⟨fun h0 => (by rw [hr] at h0; cases h0), fun q hq => ?_⟩
  rw [hr] at hq
  obtain rfl : q = i := by simpa using hq
  exact wpOp_mono (fun a' w' ⟨e', H', h1, h2, h3, h4⟩ => ⟨fun hk => h2.sub h3, h4 ht hs h3 a' w' h1 h2⟩) (wpOp_of_RS hi h hrep ho)
theorem wpAnyT_free {S S' : World → Prop} {Q : Exit → Act → World → Prop} : ∀ (fuel : Nat) (listed : Array Bool) (a : Act) (w : World), (∀ i, i < k → listed.getD i false = true) → wpAnyT P ops Q S k fuel listed a w → wpAnyT P ops Q S' k fuel listed a w
  | 0, _, _, _, _, h => h
  | fuel + 1, listed, _, _, hall, h => ⟨h.1, fun i hi => wpOp_mono (fun _ _ h' => ⟨fun hk => by
      have h1 := (mem_ready.1 hi).1
      have h2 := hall i hk
      rcases Nat.lt_or_ge i listed.size with hl | hl
      · simp [hl] at h1 h2
        rw [h2] at h1
        cases h1
      · simp [Array.getElem?_eq_none hl] at h2, wpAnyT_free fuel _ _ _ (fun j hj => getD_set_true (hall j hj)) h'.2⟩) (h.2 i hi)⟩
/-- one of the tail -/
theorem RT.tail {o : Oper} (hr : Region.ready .any ops listed = [i]) (hk : Nat.blt i k = false) (hi : ops[i]? = some o)
    (h : RS P W n ops (fun e' H' => RT P W n ops k [] Q fuel (listed.setIfInBounds i true) e' H') [o] e H) :
    RT P W n ops k HS Q (fuel + 1) listed e H := by
  intro ht hs hsub a w hrep ho
  have hk' : ¬ i < k := by
    intro h
    have h2 : Nat.blt i k = true := by rw [Nat.blt_eq]; exact h
    rw [h2] at hk
    cases hk
  have hir : i ∈ Region.ready .any ops listed := by rw [hr]; simp
  have hall : ∀ j, j < k → listed.getD j false = true := fun j hj => by
    obtain ⟨_, o', ho', hall⟩ := mem_ready.1 hir
    obtain ⟨e', he, hb, hon⟩ := tailW_spec ht ho' (by omega : k ≤ i) hj
    rw [← hon]
    exact hall e' he hb
  refine ⟨fun h0 => (by rw [hr] at h0; cases h0), fun q hq => ?_⟩
  rw [hr] at hq
  obtain rfl : q = i := by simpa using hq
  exact wpOp_mono (fun a' w' ⟨e', H', h1, h2, h4⟩ => ⟨fun h => absurd h hk', wpAnyT_free fuel _ _ _ (fun j hj => getD_set_true (hall j hj)) (h4 ht hs (List.nil_sublist _) a' w' h1 h2)⟩) (wpOp_of_RS hi h hrep ho)
/-- more is known to stay -/
theorem RT.keep {HS' : HL} (h1 : HS'.Sublist H) (h2 : HS.Sublist HS') (h : RT P W n ops k HS' Q fuel listed e H) : RT P W n ops k HS Q fuel listed e H :=
  fun ht hs _ a w hrep ho => wpAnyT_mono (fun _ h => h.sub h2) _ _ _ _ (h ht hs h1 a w hrep ho)
/-- two that may come up -/
theorem RT.two {o o' : Oper} (hr : Region.ready .any ops listed = [i, j]) (hi : ops[i]? = some o) (hj : ops[j]? = some o')
    (h : RS P W n ops (fun e' H' => HS.Sublist H' ∧ RT P W n ops k HS Q fuel (listed.setIfInBounds i true) e' H') [o] e H)
    (h' : RS P W n ops (fun e' H' => HS.Sublist H' ∧ RT P W n ops k HS Q fuel (listed.setIfInBounds j true) e' H') [o'] e H) :
    RT P W n ops k HS Q (fuel + 1) listed e H := by
  intro ht hs hsub a w hrep ho
  refine ⟨fun h0 => (by rw [hr] at h0; cases h0), fun q hq => ?_⟩
  rw [hr] at hq
  simp only [List.mem_cons, List.not_mem_nil, or_false] at hq
  rcases hq with rfl | rfl
  · exact wpOp_mono (fun a' w' ⟨e', H', h1, h2, h3, h4⟩ => ⟨fun _ => h2.sub h3, h4 ht hs h3 a' w' h1 h2⟩) (wpOp_of_RS hi h hrep ho)
  · exact wpOp_mono (fun a' w' ⟨e', H', h1, h2, h3, h4⟩ => ⟨fun _ => h2.sub h3, h4 ht hs h3 a' w' h1 h2⟩) (wpOp_of_RS hj h' hrep ho)
theorem RT.three {l : Nat} {o o' o2 : Oper} (hr : Region.ready .any ops listed = [i, j, l]) (hi : ops[i]? = some o) (hj : ops[j]? = some o') (hl : ops[l]? = some o2)
    (h : RS P W n ops (fun e' H' => HS.Sublist H' ∧ RT P W n ops k HS Q fuel (listed.setIfInBounds i true) e' H') [o] e H)
    (h' : RS P W n ops (fun e' H' => HS.Sublist H' ∧ RT P W n ops k HS Q fuel (listed.setIfInBounds j true) e' H') [o'] e H)
    (h2 : RS P W n ops (fun e' H' => HS.Sublist H' ∧ RT P W n ops k HS Q fuel (listed.setIfInBounds l true) e' H') [o2] e H) :
    RT P W n ops k HS Q (fuel + 1) listed e H := by
  intro ht hs hsub a w hrep ho
  refine ⟨fun h0 => (by rw [hr] at h0; cases h0), fun q hq => ?_⟩
  rw [hr] at hq
  simp only [List.mem_cons, List.not_mem_nil, or_false] at hq
  rcases hq with rfl | rfl | rfl
  · exact wpOp_mono (fun a' w' ⟨e', H', h1, h2, h3, h4⟩ => ⟨fun _ => h2.sub h3, h4 ht hs h3 a' w' h1 h2⟩) (wpOp_of_RS hi h hrep ho)
  · exact wpOp_mono (fun a' w' ⟨e', H', h1, h2, h3, h4⟩ => ⟨fun _ => h2.sub h3, h4 ht hs h3 a' w' h1 h2⟩) (wpOp_of_RS hj h' hrep ho)
  · exact wpOp_mono (fun a' w' ⟨e', H', h1, h2, h3, h4⟩ => ⟨fun _ => h2.sub h3, h4 ht hs h3 a' w' h1 h2⟩) (wpOp_of_RS hl h2 hrep ho)
theorem CS.drawS {l : List Oper} {id : Nat} {Q : Exit → Env → HL → Prop} {HS : HL} (k : Nat) (hsub : HS.Sublist H) (hm : P.follows .mixedOrders = true) (hs : Region.noSelect l.toArray = true) (ht : tailW l.toArray k = true)
    (h : RT P W n l.toArray k HS (fun e H => Q .normal e H) l.length (Array.replicate l.length false) e H) : CS P W n (.region id l.toArray true) Q e H := by
  intro a w hr ho
  refine wp_mono (Q := PostN W n (fun e H => Q .normal e H)) (wp_region_any hm ?_) fun x a' w' hq => ?_
  · have := h ht hs hsub a w.drew hr ho.drew
    exact wpAny_of_T _ _ _ _ this
  · cases x <;> simp only [PostN] at hq
    exact hq
theorem CS.draw {l : List Oper} {id : Nat} {Q : Exit → Env → HL → Prop} (k : Nat) (hm : P.follows .mixedOrders = true) (hs : Region.noSelect l.toArray = true) (ht : tailW l.toArray k = true)
    (h : RT P W n l.toArray k H (fun e H => Q .normal e H) l.length (Array.replicate l.length false) e H) : CS P W n (.region id l.toArray true) Q e H := by
  intro a w hr ho
  refine wp_mono (Q := PostN W n (fun e H => Q .normal e H)) (wp_region_any hm ?_) fun x a' w' hq => ?_
  · have := h ht hs (List.Sublist.refl _) a w.drew hr ho.drew
    exact wpAny_of_T _ _ _ _ this
  · cases x <;> simp only [PostN] at hq
    exact hq
end
end Go.Proofs.YtapcgokcfmklbaaDoor
