/-
  A small calculus for walks: a frame as a function of slots, memory of the call's own as a list of blocks. No program in sight. Conditions: none.
-/
import Derived.WalkKit
import Derived.Laws.FloatArith
import Derived.Laws.Rows
import Derived.Laws.OwnMore
import Derived.Deep.Draws
import Derived.Orders
import Derived.Deep.LoopGhost
namespace Go.Proofs.YtapcgokcfmklbaaDoor
open Go Go.RowKit

/-! ### memory -/
structure B where
  g : Nat
  t : TypeId
  cs : List Value
abbrev HL := List B
def Blk (w : World) (b : B) : Prop := w.heap[b.g]? = some (.cells b.cs.toArray b.t (0, 0))
structure Own (W w : World) (H : HL) : Prop where
  below : Below W.heap.size W w
  blk : ∀ b ∈ H, W.heap.size ≤ b.g ∧ Blk w b
  ne : H.Pairwise (fun a b => a.g ≠ b.g)

theorem Blk.lt {w : World} {b : B} (h : Blk w b) : b.g < w.heap.size := by
  unfold Blk at h
  rcases Nat.lt_or_ge b.g w.heap.size with h' | h'
  · exact h'
  · rw [Array.getElem?_eq_none h'] at h; cases h
theorem Blk.cell {w : World} {b : B} (h : Blk w b) (i : Nat) : w.cell? ⟨b.g, i, none⟩ = b.cs[i]? := by
  rw [cell_of_row w b.g i b.cs.toArray b.t (0, 0) h]; simp
theorem Blk.free {w : World} {b : B} (h : Blk w b) (i : Nat) : w.frozen? ⟨b.g, i, none⟩ = false := frozen_of_row w b.g i _ b.t h

theorem Own.start (W : World) : Own W W [] := ⟨Below.refl _ _, by simp, .nil⟩
theorem Own.drew {W w : World} {H : HL} (h : Own W w H) : Own W w.drew H := ⟨h.below.drew, h.blk, h.ne⟩
theorem Own.drewN {W w : World} {H : HL} (h : Own W w H) (n : Nat) : Own W (w.drewN n) H :=
  ⟨⟨h.below.os, h.below.tape, h.below.output, h.below.size, h.below.block⟩, h.blk, h.ne⟩
theorem Own.sub {W w : World} {H H' : HL} (h : Own W w H) (hs : H'.Sublist H) : Own W w H' :=
  ⟨h.below, fun b hb => h.blk b (hs.subset hb), h.ne.sublist hs⟩
theorem Own.perm {W w : World} {H H' : HL} (h : Own W w H) (hs : H.Perm H') : Own W w H' :=
  ⟨h.below, fun b hb => h.blk b (hs.mem_iff.2 hb), hs.pairwise h.ne (fun h => Ne.symm h)⟩
theorem Own.old {W w : World} {H : HL} (h : Own W w H) {p : Addr} {v : Value} (hp : W.cell? p = some v) : w.cell? p = some v := by
  rw [h.below.cell (block_lt_of_cell hp)]; exact hp
/-- What the callee leaves, seen by the caller. -/
theorem Own.call {W w w' : World} {H Hn : HL} (h : Own W w H) (hn : Own w w' Hn) : Own W w' (Hn ++ H) := by
  refine ⟨h.below.trans (hn.below.mono h.below.size), fun b hb => ?_, ?_⟩
  · rcases List.mem_append.1 hb with hb | hb
    · obtain ⟨h1, h2⟩ := hn.blk b hb
      exact ⟨Nat.le_trans h.below.size h1, h2⟩
    · obtain ⟨h1, h2⟩ := h.blk b hb
      exact ⟨h1, (hn.below.block b.g h2.lt).trans h2⟩
  · rw [List.pairwise_append]
    refine ⟨hn.ne, h.ne, fun a ha b hb => ?_⟩
    have h1 := (hn.blk a ha).1
    have h2 := (h.blk b hb).2.lt
    omega
theorem Own.alloc {W w : World} {H : HL} (h : Own W w H) (t : TypeId) (cs : List Value) :
    Own W (w.alloc (.cells cs.toArray t)) (⟨w.heap.size, t, cs⟩ :: H) := by
  refine ⟨h.below.alloc h.below.size _, fun b hb => ?_, ?_⟩
  · rcases List.mem_cons.1 hb with rfl | hb
    · exact ⟨h.below.size, heap_alloc_new w _⟩
    · obtain ⟨h1, h2⟩ := h.blk b hb
      exact ⟨h1, (Below.heap_alloc w _ _ h2.lt).trans h2⟩
  · refine List.pairwise_cons.2 ⟨fun b hb => ?_, h.ne⟩
    have := (h.blk b hb).2.lt
    show w.heap.size ≠ b.g
    omega
/-- A block of the list, written: the list behind it. -/
inductive Upd (g : Nat) (t : TypeId) (cs cs' : List Value) : HL → HL → Prop where
  | head {H : HL} : Upd g t cs cs' (⟨g, t, cs⟩ :: H) (⟨g, t, cs'⟩ :: H)
  | tail {b : B} {H H' : HL} (h : Upd g t cs cs' H H') : Upd g t cs cs' (b :: H) (b :: H')
theorem Upd.mem {g : Nat} {t : TypeId} {cs cs' : List Value} {H H' : HL} (h : Upd g t cs cs' H H') : (⟨g, t, cs⟩ : B) ∈ H := by
  induction h with
  | head => simp
  | tail _ ih => simp [ih]
theorem Upd.own {W w w' : World} {g : Nat} {t : TypeId} {cs cs' : List Value} {H H' : HL} (hu : Upd g t cs cs' H H') (h : Own W w H)
    (hb : Below W.heap.size W w') (hg : Blk w' ⟨g, t, cs'⟩) (ho : ∀ k, k ≠ g → k < w.heap.size → w'.heap[k]? = w.heap[k]?) : Own W w' H' := by
  have key : (∀ b ∈ H', b.g = g ∧ b = ⟨g, t, cs'⟩ ∨ b ∈ H ∧ b.g ≠ g) ∧ H'.map (·.g) = H.map (·.g) := by
    have hne := h.ne
    clear h hb hg ho
    induction hu with
    | head =>
      rw [List.pairwise_cons] at hne
      refine ⟨fun b hb => ?_, rfl⟩
      rcases List.mem_cons.1 hb with rfl | hb
      · exact .inl ⟨rfl, rfl⟩
      · exact .inr ⟨List.mem_cons_of_mem _ hb, fun e => hne.1 b hb e.symm⟩
    | tail hu ih =>
      rw [List.pairwise_cons] at hne
      obtain ⟨h1, h2⟩ := ih hne.2
      refine ⟨fun b hb => ?_, by simp [h2]⟩
      rcases List.mem_cons.1 hb with rfl | hb
      · exact .inr ⟨List.mem_cons_self .., hne.1 _ hu.mem⟩
      · rcases h1 b hb with h | ⟨h, h'⟩
        · exact .inl h
        · exact .inr ⟨List.mem_cons_of_mem _ h, h'⟩
  refine ⟨hb, fun b hbm => ?_, ?_⟩
  · rcases key.1 b hbm with ⟨_, rfl⟩ | ⟨h1, h2⟩
    · exact ⟨(h.blk _ hu.mem).1, hg⟩
    · obtain ⟨h3, h4⟩ := h.blk b h1
      exact ⟨h3, (ho b.g h2 h4.lt).trans h4⟩
  · have := h.ne
    rw [← List.pairwise_map (f := fun b : B => b.g) (R := (· ≠ ·))] at this ⊢
    rw [key.2]; exact this

/-! ### frames -/
abbrev Env := Nat → Value
def put (e : Env) (d : Nat) (v : Value) : Env := fun t => if t = d then v else e t
def ev (e : Env) : Operand → Value
  | .tmp t => e t
  | .const v => v
  | .global g => .pointer (some ⟨g, 0, none⟩)
  | .func f => .func (.func f) #[] #[]
def putO (e : Env) : Option Tmp → Value → Env
  | some d, v => put e d v
  | none, _ => e
structure Rep (n : Nat) (a : Act) (e : Env) : Prop where
  defers : a.defers = []
  size : a.tmps.size = n
  get : ∀ t, a.tmps.getD t undef = e t
theorem Rep.eval {n : Nat} {a : Act} {e : Env} (h : Rep n a e) : a.eval = ev e := by
  funext x
  cases x <;> simp only [Act.eval, ev]
  exact h.get _
def dstOK (n : Nat) : Option Tmp → Bool
  | some d => Nat.blt d n
  | none => true
theorem Rep.put {n : Nat} {a : Act} {e : Env} (h : Rep n a e) {d : Option Tmp} (hd : dstOK n d = true) (v : Value) : Rep n (a.put d v) (putO e d v) := by
  cases d with
  | none => exact h
  | some d =>
    have hd' : d < n := by simpa [dstOK] using hd
    refine ⟨h.defers, by simp [Act.put, h.size], fun t => ?_⟩
    have hg := h.get t
    simp only [Act.put, putO, Go.Proofs.YtapcgokcfmklbaaDoor.put]
    by_cases ht : t = d
    · subst ht
      simp [h.size, hd']
    · rw [if_neg ht, ← hg]
      simp [Array.getElem?_setIfInBounds_ne (Ne.symm ht)]

/-! ### regions -/
def PostN (W : World) (n : Nat) (Q : Env → HL → Prop) : Exit → Act → World → Prop
  | .normal, a, w => ∃ e H, Rep n a e ∧ Own W w H ∧ Q e H
  | _, _, _ => False
def RS (P : Program) (W : World) (n : Nat) (ops : Array Oper) (Q : Env → HL → Prop) (rest : List Oper) (e : Env) (H : HL) : Prop :=
  ∀ a w, Rep n a e → Own W w H → wpList P ops (PostN W n Q) rest a w

section
variable {P : Program} {W : World} {n : Nat} {ops : Array Oper} {Q : Env → HL → Prop} {rest : List Oper} {e : Env} {H : HL}
theorem RS.nil (h : Q e H) : RS P W n ops Q [] e H := fun _ _ hr ho => ⟨e, H, hr, ho, h⟩
theorem RS.weaken {H' : HL} (hs : H'.Sublist H) (h : RS P W n ops Q rest e H') : RS P W n ops Q rest e H := fun a w hr ho => h a w hr (ho.sub hs)
theorem RS.perm {H' : HL} (hs : H.Perm H') (h : RS P W n ops Q rest e H') : RS P W n ops Q rest e H := fun a w hr ho => h a w hr (ho.perm hs)
/-- One operation that hands back a value. -/
theorem RS.step {d : Option Tmp} {op : Op} {ty : TypeId} {pos : String} {af : Array Edge} (hd : dstOK n d = true)
    (h : ∀ w, Own W w H → ∃ v w' H', (execOp (ev e) ⟨d, op, ty, pos, af, none⟩).run P w = .ok (.value v) w' ∧ Own W w' H' ∧ RS P W n ops Q rest (putO e d v) H') :
    RS P W n ops Q (⟨d, op, ty, pos, af, none⟩ :: rest) e H := by
  intro a w hr ho
  obtain ⟨v, w', H', h1, h2, h3⟩ := h w ho
  simp only [wpList, Region.wanted, if_true]
  left
  unfold Oper.wp
  rw [hr.eval, h1, Oper.upon_value]
  exact h3 _ _ (hr.put hd v) h2
/-- One operation that hands back nothing (a store). -/
theorem RS.skip {d : Option Tmp} {op : Op} {ty : TypeId} {pos : String} {af : Array Edge} (hd : dstOK n d = true)
    (h : ∀ w, Own W w H → ∃ w' H', (execOp (ev e) ⟨d, op, ty, pos, af, none⟩).run P w = .ok .skip w' ∧ Own W w' H' ∧ RS P W n ops Q rest (putO e d undef) H') :
    RS P W n ops Q (⟨d, op, ty, pos, af, none⟩ :: rest) e H := by
  intro a w hr ho
  obtain ⟨w', H', h1, h2, h3⟩ := h w ho
  simp only [wpList, Region.wanted, if_true]
  left
  unfold Oper.wp
  rw [hr.eval, h1, Oper.upon_skip]
  exact h3 _ _ (hr.put hd _) h2
theorem RS.pure {d : Tmp} {op : Op} {ty : TypeId} {pos : String} {af : Array Edge} (v : Value) (hd : Nat.blt d n = true)
    (h : ∀ w, (execOp (ev e) ⟨some d, op, ty, pos, af, none⟩).run P w = .ok (.value v) w) (k : RS P W n ops Q rest (put e d v) H) :
    RS P W n ops Q (⟨some d, op, ty, pos, af, none⟩ :: rest) e H :=
  RS.step (d := some d) hd fun w ho => ⟨v, w, H, h w, ho, k⟩
/-- A guarded operation that runs. -/
theorem RS.on {d : Option Tmp} {op : Op} {ty : TypeId} {pos : String} {af : Array Edge} {j : Nat} {b : Bool} {dj : Tmp} (hj : (ops[j]?).bind (·.dst) = some dj) (hv : e dj = .bool b)
    (k : RS P W n ops Q (⟨d, op, ty, pos, af, none⟩ :: rest) e H) : RS P W n ops Q (⟨d, op, ty, pos, af, some (j, b)⟩ :: rest) e H := by
  intro a w hr ho
  have hk := k a w hr ho
  have hw : Region.wanted (⟨d, op, ty, pos, af, some (j, b)⟩ : Oper) (yielded ops a.tmps) = true := by
    have hg := hr.get dj
    rw [hv] at hg
    have hs : dj < a.tmps.size := by
      rcases Nat.lt_or_ge dj a.tmps.size with h' | h'
      · exact h'
      · simp [Array.getD, Nat.not_lt.2 h', undef] at hg
    simp [Array.getD, hs] at hg
    simp [Region.wanted, yielded, hj, hs, hg]
  simp only [wpList, hw, if_true]
  simp only [wpList, Region.wanted, if_true] at hk
  exact hk
/-- A guarded operation that does not run. -/
theorem RS.off {d : Option Tmp} {op : Op} {ty : TypeId} {pos : String} {af : Array Edge} {j : Nat} {b c : Bool} {dj : Tmp} (hj : (ops[j]?).bind (·.dst) = some dj) (hv : e dj = .bool c ∨ e dj = undef) (hbc : (e dj = .bool c → c = !b))
    (hd : dstOK n d = true) (k : RS P W n ops Q rest (putO e d undef) H) : RS P W n ops Q (⟨d, op, ty, pos, af, some (j, b)⟩ :: rest) e H := by
  intro a w hr ho
  have hk := k _ _ (hr.put hd undef) ho
  have hw : Region.wanted (⟨d, op, ty, pos, af, some (j, b)⟩ : Oper) (yielded ops a.tmps) = false := by
    have hg := hr.get dj
    by_cases hs : dj < a.tmps.size
    · simp [Array.getD, hs] at hg
      rcases hv with hv | hv
      · have := hbc hv
        subst this
        rw [hv] at hg
        simp [Region.wanted, yielded, hj, hs, hg]
      · rw [hv] at hg
        simp [Region.wanted, yielded, hj, hs, hg, undef]
    · simp [Region.wanted, yielded, hj, hs]
  simp only [wpList, hw]
  exact hk
end

theorem RS.split {P : Program} {W : World} {n : Nat} {ops : Array Oper} {Q : Env → HL → Prop} {rest : List Oper} {e : Env} {H : HL} {dj : Tmp} {b : Bool} (_ : e dj = .bool b) (ht : b = true → RS P W n ops Q rest e H) (hf : b = false → RS P W n ops Q rest e H) : RS P W n ops Q rest e H := by
  cases b
  · exact hf rfl
  · exact ht rfl

/-! ### code -/
def PostC (W : World) (n : Nat) (Q : Exit → Env → HL → Prop) (x : Exit) (a : Act) (w : World) : Prop := ∃ e H, Rep n a e ∧ Own W w H ∧ Q x e H
def CS (P : Program) (W : World) (n : Nat) (c : Code) (Q : Exit → Env → HL → Prop) (e : Env) (H : HL) : Prop :=
  ∀ a w, Rep n a e → Own W w H → c.wp P (PostC W n Q) a w
def thenC (k : Env → HL → Prop) (Q : Exit → Env → HL → Prop) : Exit → Env → HL → Prop
  | .normal, e, H => k e H
  | x, e, H => Q x e H
def blockC (id : Nat) (Q : Exit → Env → HL → Prop) : Exit → Env → HL → Prop
  | .exit i, e, H => if i = id then Q .normal e H else Q (.exit i) e H
  | x, e, H => Q x e H
def mix (l : List Nat) (e g : Env) : Env := fun t => if l.contains t then g t else e t
def puts (e : Env) : List (Nat × Value) → Env
  | [] => e
  | (d, v) :: l => put (puts e l) d v
theorem frame_mix {l : List Nat} {e g : Env} {t : Nat} (ht : l.contains t = false) : mix l e g t = e t := by
  unfold mix; rw [ht]; rfl
theorem frame_put {l : List Nat} {e : Env} {d t : Nat} {v r : Value} (hd : l.contains d = true) (ht : l.contains t = false) (h : e t = r) : put e d v t = r := by
  unfold put
  rw [if_neg (fun hh => by subst hh; rw [hd] at ht; cases ht)]
  exact h
theorem kn_nil {e : Env} : ∀ p ∈ ([] : List (Nat × Value)), e p.1 = p.2 := fun _ h => by cases h
theorem kn_cons {e : Env} {t : Nat} {v : Value} {l : List (Nat × Value)} (h : e t = v) (hl : ∀ p ∈ l, e p.1 = p.2) : ∀ p ∈ (t, v) :: l, e p.1 = p.2 := fun p hp => by
  rcases List.mem_cons.1 hp with rfl | hp
  · exact h
  · exact hl p hp
theorem frame_puts {l : List Nat} {e : Env} {t : Nat} {r : Value} (ht : l.contains t = false) (h : e t = r) : ∀ (kn : List (Nat × Value)), kn.all (fun p => l.contains p.1) = true → puts e kn t = r
  | [], _ => h
  | (d, v) :: kn, hk => by
    simp only [List.all_cons, Bool.and_eq_true] at hk
    exact frame_put hk.1 ht (frame_puts ht h kn hk.2)
theorem frame_mix2 {l l' : List Nat} {e g : Env} {t : Nat} {r : Value} (hs : l'.all l.contains = true) (ht : l.contains t = false) (h : e t = r) : mix l' e g t = r := by
  have h1 : l'.contains t = false := by
    cases hc : l'.contains t with
    | false => rfl
    | true =>
      have h2 := List.all_eq_true.1 hs t (by simpa using hc)
      rw [ht] at h2; cases h2
  rw [frame_mix h1, h]
theorem of_bne_false {α : Type} [BEq α] [LawfulBEq α] {a b : α} (h : (a != b) = false) : a = b := by simpa using h

inductive Rem (b : B) : HL → HL → Prop where
  | head {H : HL} : Rem b (b :: H) H
  | tail {c : B} {H H' : HL} (h : Rem b H H') : Rem b (c :: H) (c :: H')
theorem Rem.perm {b : B} {H H' : HL} (h : Rem b H H') : H.Perm (b :: H') := by
  induction h with
  | head => exact .refl _
  | @tail c H H' _ ih => exact (ih.cons c).trans (.swap ..)
/-- What of the call's blocks is kept, in whatever order. -/
inductive Sbp : HL → HL → Prop where
  | refl {H : HL} : Sbp H H
  | nil {H : HL} : Sbp [] H
  | cons {b : B} {L H H' : HL} (h : Rem b H H') (k : Sbp L H') : Sbp (b :: L) H
  | skip {b : B} {L H : HL} (k : Sbp L H) : Sbp L (b :: H)
  | app {H K : HL} : Sbp H (H ++ K)
theorem Sbp.perm {L H : HL} (h : Sbp L H) : ∃ K, H.Perm (L ++ K) := by
  induction h with
  | @refl H => exact ⟨[], by rw [List.append_nil]⟩
  | @nil H => exact ⟨H, .refl _⟩
  | cons h _ ih =>
    obtain ⟨K, hk⟩ := ih
    exact ⟨K, h.perm.trans (hk.cons _)⟩
  | @skip b L H _ ih =>
    obtain ⟨K, hk⟩ := ih
    exact ⟨b :: K, (hk.cons b).trans List.perm_middle.symm⟩
  | @app H K => exact ⟨K, .refl _⟩
theorem Own.sbp {W w : World} {H L : HL} (h : Own W w H) (s : Sbp L H) : Own W w L := by
  obtain ⟨K, hk⟩ := s.perm
  exact (h.perm hk).sub (List.sublist_append_left _ _)

/-- what a round of a loop comes to -/
def loopQ {X : Type} (Wr : List Nat) (e : Env) (kn : X → List (Nat × Value)) (Hx : X → HL) (Φ : X → Prop) (μ : X → Nat) (m : Nat) (Q : Exit → Env → HL → Prop) : Exit → Env → HL → Prop
  | .normal, e', H' => (∀ t, Wr.contains t = false → e' t = e t) ∧ ∃ x', Φ x' ∧ μ x' < m ∧ (∀ p ∈ kn x', e' p.1 = p.2) ∧ Sbp (Hx x') H'
  | ex, e', H' => Q ex e' H'
/-- what holds at a join -/
def cutQ {X : Type} (Wr : List Nat) (e : Env) (kn : X → List (Nat × Value)) (Hx : X → HL) (Φ : X → Prop) (Q : Exit → Env → HL → Prop) : Exit → Env → HL → Prop
  | .normal, e', H' => (∀ t, Wr.contains t = false → e' t = e t) ∧ ∃ z, Φ z ∧ (∀ p ∈ kn z, e' p.1 = p.2) ∧ Sbp (Hx z) H'
  | ex, e', H' => Q ex e' H'
section
variable {P : Program} {W : World} {n : Nat} {Q : Exit → Env → HL → Prop} {e e0 : Env} {H : HL} {K : Env → HL → Prop} {i j : Nat} {X : Type} {Wr : List Nat} {kn : X → List (Nat × Value)} {Hx : X → HL} {Φ : X → Prop} {μ : X → Nat} {m : Nat}
theorem thenC_n (h : K e H) : thenC K Q .normal e H := h
theorem thenC_r (h : Q .ret e H) : thenC K Q .ret e H := h
theorem thenC_x (h : Q (.exit i) e H) : thenC K Q (.exit i) e H := h
theorem blockC_n (h : Q .normal e H) : blockC j Q .normal e H := h
theorem blockC_r (h : Q .ret e H) : blockC j Q .ret e H := h
theorem blockC_x (h : Q .normal e H) : blockC i Q (.exit i) e H := by unfold blockC; simp only [if_true]; exact h
theorem blockC_y (hne : Nat.beq i j = false) (h : Q (.exit i) e H) : blockC j Q (.exit i) e H := by
  have : i ≠ j := fun hh => by subst hh; simp at hne
  unfold blockC; simp only [this, if_false]; exact h
theorem loopQ_n (hf : ∀ t, Wr.contains t = false → e t = e0 t) (h : ∃ x', Φ x' ∧ μ x' < m ∧ (∀ p ∈ kn x', e p.1 = p.2) ∧ Sbp (Hx x') H) : loopQ Wr e0 kn Hx Φ μ m Q .normal e H := ⟨hf, h⟩
theorem loopQ_r (h : Q .ret e H) : loopQ Wr e0 kn Hx Φ μ m Q .ret e H := h
theorem loopQ_x (h : Q (.exit i) e H) : loopQ Wr e0 kn Hx Φ μ m Q (.exit i) e H := h
theorem cutQ_n (hf : ∀ t, Wr.contains t = false → e t = e0 t) (h : ∃ z, Φ z ∧ (∀ p ∈ kn z, e p.1 = p.2) ∧ Sbp (Hx z) H) : cutQ Wr e0 kn Hx Φ Q .normal e H := ⟨hf, h⟩
theorem cutQ_r (h : Q .ret e H) : cutQ Wr e0 kn Hx Φ Q .ret e H := h
theorem cutQ_x (h : Q (.exit i) e H) : cutQ Wr e0 kn Hx Φ Q (.exit i) e H := h
end

section
variable {P : Program} {W : World} {n : Nat} {Q : Exit → Env → HL → Prop} {e : Env} {H : HL}
theorem CS.weaken {c : Code} {H' : HL} (hs : H'.Sublist H) (h : CS P W n c Q e H') : CS P W n c Q e H := fun a w hr ho => h a w hr (ho.sub hs)
theorem CS.perm {c : Code} {H' : HL} (hs : H.Perm H') (h : CS P W n c Q e H') : CS P W n c Q e H := fun a w hr ho => h a w hr (ho.perm hs)
theorem CS.mono {c : Code} {Q' : Exit → Env → HL → Prop} (h : CS P W n c Q e H) (hq : ∀ x e H, Q x e H → Q' x e H) : CS P W n c Q' e H :=
  fun a w hr ho => wp_mono (h a w hr ho) fun x _ _ ⟨e', H', h1, h2, h3⟩ => ⟨e', H', h1, h2, hq _ _ _ h3⟩
theorem CS.skip (h : Q .normal e H) : CS P W n .skip Q e H := fun _ _ hr ho => wp_skip ⟨e, H, hr, ho, h⟩
theorem CS.label {l : Nat} (h : Q .normal e H) : CS P W n (.label l) Q e H := fun _ _ hr ho => wp_label ⟨e, H, hr, ho, h⟩
theorem CS.exit {i : Nat} (h : Q (.exit i) e H) : CS P W n (.exit i) Q e H := fun _ _ hr ho => wp_exit ⟨e, H, hr, ho, h⟩
theorem CS.ret (h : Q .ret e H) : CS P W n .ret Q e H := fun _ _ hr ho => wp_ret ⟨e, H, hr, ho, h⟩
theorem CS.seq {x y : Code} (h : CS P W n x (thenC (fun e H => CS P W n y Q e H) Q) e H) : CS P W n (.seq x y) Q e H := by
  intro a w hr ho
  refine wp_seq (wp_mono (h a w hr ho) fun x a' w' hq => ?_)
  obtain ⟨e', H', h1, h2, h3⟩ := hq
  cases x <;> simp only [thenC] at h3 <;> simp only [Exit.then] <;> first | exact h3 _ _ h1 h2 | exact ⟨e', H', h1, h2, h3⟩
theorem CS.cond {c : Operand} {x y : Code} {b : Bool} (hc : ev e c = .bool b) (ht : b = true → CS P W n x Q e H) (hf : b = false → CS P W n y Q e H) : CS P W n (.cond c x y) Q e H := by
  intro a w hr ho
  refine wp_cond_split (t := b) (by rw [hr.eval]; exact hc) (fun h => ht h a w hr ho) (fun h => hf h a w hr ho)
theorem CS.condT {c : Operand} {x y : Code} {b : Bool} (hc : ev e c = .bool b) (hb : b = true) (h : CS P W n x Q e H) : CS P W n (.cond c x y) Q e H :=
  CS.cond hc (fun _ => h) (fun h0 => by rw [hb] at h0; cases h0)
theorem CS.condF {c : Operand} {x y : Code} {b : Bool} (hc : ev e c = .bool b) (hb : b = false) (h : CS P W n y Q e H) : CS P W n (.cond c x y) Q e H :=
  CS.cond hc (fun h0 => by rw [hb] at h0; cases h0) (fun _ => h)
/-- a join: what holds there of the slots that have been written -/
theorem CS.cut {x y : Code} (Wr : List Nat) {X : Type} (kn : X → List (Nat × Value)) (Hx : X → HL) (Φ : X → Prop)
    (h : CS P W n x (cutQ Wr e kn Hx Φ Q) e H)
    (k : ∀ z g, Φ z → CS P W n y Q (puts (mix Wr e g) (kn z)) (Hx z)) : CS P W n (.seq x y) Q e H := by
  refine CS.seq (CS.mono h fun ex e' H' hq => ?_)
  cases ex <;> simp only [cutQ] at hq <;> simp only [thenC]
  · obtain ⟨hf, z, hz, hk, hs⟩ := hq
    have hm : mix Wr e e' = e' := by
      funext t
      simp only [mix]
      split
      · rfl
      · rename_i ht; exact (hf t (by simpa using ht)).symm
    have hp : ∀ (l : List (Nat × Value)), (∀ p ∈ l, e' p.1 = p.2) → puts e' l = e' := by
      intro l
      induction l with
      | nil => intro _; rfl
      | cons p l ih =>
        intro h1
        obtain ⟨d, v⟩ := p
        have h2 := ih (fun q hq => h1 q (List.mem_cons_of_mem _ hq))
        simp only [puts, h2]
        funext t
        simp only [put]
        split
        · rename_i ht; subst ht; exact (h1 (t, v) (List.mem_cons_self ..)).symm
        · rfl
    have := k z e' hz
    rw [hm, hp _ hk] at this
    exact fun a w hr ho => this a w hr (ho.sbp hs)
  all_goals exact hq
theorem CS.block {i : Nat} {c : Code} (h : CS P W n c (blockC i Q) e H) : CS P W n (.block i c) Q e H := by
  intro a w hr ho
  refine wp_block (wp_mono (h a w hr ho) fun x a' w' hq => ?_)
  obtain ⟨e', H', h1, h2, h3⟩ := hq
  cases x <;> simp only [blockC] at h3 <;> simp only [Exit.inBlock] <;> first | exact ⟨e', H', h1, h2, h3⟩ | skip
  split
  · rename_i hi; simp only [hi, if_true] at h3; exact ⟨e', H', h1, h2, h3⟩
  · rename_i hi; simp only [hi, if_false] at h3; exact ⟨e', H', h1, h2, h3⟩
theorem CS.region {i : Nat} {l : List Oper} (h : RS P W n l.toArray (fun e H => Q .normal e H) l e H) : CS P W n (.region i l.toArray false) Q e H := by
  intro a w hr ho
  refine wp_mono (wp_region_lit (h a w hr ho)) fun x a' w' hq => ?_
  cases x <;> simp only [PostN] at hq
  exact hq
/-- A loop: its state is a value of X; 'kn': the slots that are known at each round's head; 'Wr': the slots that a round writes. -/
theorem CS.loop {c : Code} {X : Type} (Wr : List Nat) (kn : X → List (Nat × Value)) (Hx : X → HL) (Φ : X → Prop) (μ : X → Nat) (x0 : X) (h0 : Φ x0)
    (he : ∀ p ∈ kn x0, e p.1 = p.2) (hH : Sbp (Hx x0) H)
    (round : ∀ x g, Φ x → CS P W n c (loopQ Wr e kn Hx Φ μ (μ x) Q) (puts (mix Wr e g) (kn x)) (Hx x)) : CS P W n (.loop c) Q e H := by
  intro a w hr ho
  have put_self : ∀ (l : List (Nat × Value)) (e1 : Env), (∀ p ∈ l, e1 p.1 = p.2) → puts e1 l = e1 := by
    intro l
    induction l with
    | nil => intro e1 _; rfl
    | cons p l ih =>
      intro e1 h1
      obtain ⟨d, v⟩ := p
      have h2 := ih e1 (fun q hq => h1 q (List.mem_cons_of_mem _ hq))
      simp only [puts, h2]
      funext t
      simp only [put]
      split
      · rename_i ht; subst ht; exact (h1 (t, v) (List.mem_cons_self ..)).symm
      · rfl
  refine wp_loop_ghost (fun k a w => ∃ x e', Φ x ∧ μ x = k ∧ Rep n a e' ∧ Own W w (Hx x) ∧ (∀ t, Wr.contains t = false → e' t = e t) ∧ (∀ p ∈ kn x, e' p.1 = p.2)) (μ x0) ⟨x0, e, h0, rfl, hr, ho.sbp hH, fun _ _ => rfl, he⟩ ?_
  rintro k a' w' ⟨x, e', hx, rfl, hr', ho', hf, hk⟩
  have hm : mix Wr e e' = e' := by
    funext t
    simp only [mix]
    split
    · rfl
    · rename_i ht; exact (hf t (by simpa using ht)).symm
  have hp : puts (mix Wr e e') (kn x) = e' := by rw [hm]; exact put_self _ _ hk
  have := round x e' hx a' w' (by rw [hp]; exact hr') ho'
  refine wp_mono this fun ex a2 w2 hq => ?_
  obtain ⟨e2, H2, h1, h2, h3⟩ := hq
  cases ex <;> simp only [loopQ] at h3 <;> simp only [Exit.then]
  · obtain ⟨hf2, x2, hx2, hlt, hk2, hs2⟩ := h3
    exact ⟨μ x2, hlt, x2, e2, hx2, rfl, h1, h2.sbp hs2, hf2, hk2⟩
  all_goals exact ⟨e2, H2, h1, h2, h3⟩
end
end Go.Proofs.YtapcgokcfmklbaaDoor
