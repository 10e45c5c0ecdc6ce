/-
  Part 1 of what the proof leans on (Calc, Ops, Ops2, Entry, Any, Spec, Open, Flt, Row, Eq, Pix, Tile, Cut, Cov). Conditions: as each theorem says.
-/
import Derived.WalkKit
import Derived.Laws.FloatArith
import Derived.Laws.Rows
import Derived.Laws.OwnMore
import Derived.Deep.Draws
import Derived.Orders
import Derived.Deep.LoopGhost
import Derived.Maps.AppendAt
import Derived.KernelRfl
import Derived.OrdersHeld
import Derived.ChangeArms
import Derived.Deep.Slices
import Derived.OpenShut
import Derived.WideShapes
import Derived.Laws.StructEq
namespace Go.Proofs.Ytdfbeigjinhgiaa
open Go Go.RowKit

/-! ### memory -/
/-- what stands in a block: a row of cells of a type; or another object (a map, an iterator) -/
inductive BT where
  | ty (t : TypeId)
  | obj (o : Obj)
instance instCoeBT : Coe TypeId BT := ⟨BT.ty⟩
@[reducible] instance instOfNatBT (n : Nat) : OfNat BT n := ⟨BT.ty n⟩
def BT.on : BT → List Value → Obj
  | .ty t, cs => .cells cs.toArray t (0, 0)
  | .obj o, _ => o
@[simp] theorem BT.on_ty (t : TypeId) (cs : List Value) : (BT.ty t).on cs = .cells cs.toArray t (0, 0) := rfl
structure B where
  g : Nat
  t : BT
  cs : List Value
abbrev HL := List B
def Blk (w : World) (b : B) : Prop := w.heap[b.g]? = some (b.t.on b.cs)
structure Own (W w : World) (H : HL) : Prop where
  below : Below W.heap.size W w
  blk : ∀ b ∈ H, W.heap.size ≤ b.g ∧ Blk w b
  ne : H.Pairwise (fun a b => a.g ≠ b.g)

theorem Blk.lt {w : World} {b : B} (h : Blk w b) : b.g < w.heap.size := by
  unfold Blk at h
  rcases Nat.lt_or_ge b.g w.heap.size with h' | h'
  · exact h'
  · rw [Array.getElem?_eq_none h'] at h; cases h
theorem Blk.cell {w : World} {g : Nat} {t : TypeId} {cs : List Value} (h : Blk w ⟨g, .ty t, cs⟩) (i : Nat) : w.cell? ⟨g, i, none⟩ = cs[i]? := by
  rw [cell_of_row w g i cs.toArray t (0, 0) h]; simp
theorem Blk.free {w : World} {g : Nat} {t : TypeId} {cs : List Value} (h : Blk w ⟨g, .ty t, cs⟩) (i : Nat) : w.frozen? ⟨g, i, none⟩ = false := frozen_of_row w g i _ t h

theorem Own.start (W : World) : Own W W [] := ⟨Below.refl _ _, by simp, .nil⟩
theorem Own.drew {W w : World} {H : HL} (h : Own W w H) : Own W w.drew H := ⟨h.below.drew, h.blk, h.ne⟩
theorem Own.sub {W w : World} {H H' : HL} (h : Own W w H) (hs : H'.Sublist H) : Own W w H' :=
  ⟨h.below, fun b hb => h.blk b (hs.subset hb), h.ne.sublist hs⟩
theorem Own.perm {W w : World} {H H' : HL} (h : Own W w H) (hs : H.Perm H') : Own W w H' :=
  ⟨h.below, fun b hb => h.blk b (hs.mem_iff.2 hb), hs.pairwise h.ne (fun h => Ne.symm h)⟩
theorem Own.old {W w : World} {H : HL} (h : Own W w H) {p : Addr} {v : Value} (hp : W.cell? p = some v) : w.cell? p = some v := by
  rw [h.below.cell (block_lt_of_cell hp)]; exact hp
/-- What the callee leaves, seen by the caller. -/
theorem Own.call {W w w' : World} {H Hn : HL} (h : Own W w H) (hn : Own w w' Hn) : Own W w' (Hn ++ H) := by
  refine ⟨h.below.trans (hn.below.mono h.below.size), fun b hb => ?_, ?_⟩
  · rcases List.mem_append.1 hb with hb | hb
    · obtain ⟨h1, h2⟩ := hn.blk b hb
      exact ⟨Nat.le_trans h.below.size h1, h2⟩
    · obtain ⟨h1, h2⟩ := h.blk b hb
      exact ⟨h1, (hn.below.block b.g h2.lt).trans h2⟩
  · rw [List.pairwise_append]
    refine ⟨hn.ne, h.ne, fun a ha b hb => ?_⟩
    have h1 := (hn.blk a ha).1
    have h2 := (h.blk b hb).2.lt
    omega
theorem Own.allocO {W w : World} {H : HL} (h : Own W w H) (t : BT) (cs : List Value) :
    Own W (w.alloc (t.on cs)) (⟨w.heap.size, t, cs⟩ :: H) := by
  refine ⟨h.below.alloc h.below.size _, fun b hb => ?_, ?_⟩
  · rcases List.mem_cons.1 hb with rfl | hb
    · exact ⟨h.below.size, heap_alloc_new w _⟩
    · obtain ⟨h1, h2⟩ := h.blk b hb
      exact ⟨h1, (Below.heap_alloc w _ _ h2.lt).trans h2⟩
  · refine List.pairwise_cons.2 ⟨fun b hb => ?_, h.ne⟩
    have := (h.blk b hb).2.lt
    show w.heap.size ≠ b.g
    omega
theorem Own.alloc {W w : World} {H : HL} (h : Own W w H) (t : TypeId) (cs : List Value) :
    Own W (w.alloc (.cells cs.toArray t)) (⟨w.heap.size, t, cs⟩ :: H) := h.allocO (.ty t) cs
/-- A block of the list, written: the list behind it. -/
inductive Upd (g : Nat) (t : BT) (cs cs' : List Value) : HL → HL → Prop where
  | head {H : HL} : Upd g t cs cs' (⟨g, t, cs⟩ :: H) (⟨g, t, cs'⟩ :: H)
  | tail {b : B} {H H' : HL} (h : Upd g t cs cs' H H') : Upd g t cs cs' (b :: H) (b :: H')
theorem Upd.mem {g : Nat} {t : BT} {cs cs' : List Value} {H H' : HL} (h : Upd g t cs cs' H H') : (⟨g, t, cs⟩ : B) ∈ H := by
  induction h with
  | head => simp
  | tail _ ih => simp [ih]
theorem Upd.own {W w w' : World} {g : Nat} {t : BT} {cs cs' : List Value} {H H' : HL} (hu : Upd g t cs cs' H H') (h : Own W w H)
    (hb : Below W.heap.size W w') (hg : Blk w' ⟨g, t, cs'⟩) (ho : ∀ k, k ≠ g → k < w.heap.size → w'.heap[k]? = w.heap[k]?) : Own W w' H' := by
  have key : (∀ b ∈ H', b.g = g ∧ b = ⟨g, t, cs'⟩ ∨ b ∈ H ∧ b.g ≠ g) ∧ H'.map (·.g) = H.map (·.g) := by
    have hne := h.ne
    clear h hb hg ho
    induction hu with
    | head =>
      rw [List.pairwise_cons] at hne
      refine ⟨fun b hb => ?_, rfl⟩
      rcases List.mem_cons.1 hb with rfl | hb
      · exact .inl ⟨rfl, rfl⟩
      · exact .inr ⟨List.mem_cons_of_mem _ hb, fun e => hne.1 b hb e.symm⟩
    | tail hu ih =>
      rw [List.pairwise_cons] at hne
      obtain ⟨h1, h2⟩ := ih hne.2
      refine ⟨fun b hb => ?_, by simp [h2]⟩
      rcases List.mem_cons.1 hb with rfl | hb
      · exact .inr ⟨List.mem_cons_self .., hne.1 _ hu.mem⟩
      · rcases h1 b hb with h | ⟨h, h'⟩
        · exact .inl h
        · exact .inr ⟨List.mem_cons_of_mem _ h, h'⟩
  refine ⟨hb, fun b hbm => ?_, ?_⟩
  · rcases key.1 b hbm with ⟨_, rfl⟩ | ⟨h1, h2⟩
    · exact ⟨(h.blk _ hu.mem).1, hg⟩
    · obtain ⟨h3, h4⟩ := h.blk b h1
      exact ⟨h3, (ho b.g h2 h4.lt).trans h4⟩
  · have := h.ne
    rw [← List.pairwise_map (f := fun b : B => b.g) (R := (· ≠ ·))] at this ⊢
    rw [key.2]; exact this

/-! ### frames -/
abbrev Env := Nat → Value
def put (e : Env) (d : Nat) (v : Value) : Env := fun t => if t = d then v else e t
def ev (e : Env) : Operand → Value
  | .tmp t => e t
  | .const v => v
  | .global g => .pointer (some ⟨g, 0, none⟩)
  | .func f => .func (.func f) #[] #[]
def putO (e : Env) : Option Tmp → Value → Env
  | some d, v => put e d v
  | none, _ => e
structure Rep (n : Nat) (a : Act) (e : Env) : Prop where
  defers : a.defers = []
  size : a.tmps.size = n
  get : ∀ t, a.tmps.getD t undef = e t
theorem Rep.eval {n : Nat} {a : Act} {e : Env} (h : Rep n a e) : a.eval = ev e := by
  funext x
  cases x <;> simp only [Act.eval, ev]
  exact h.get _
def dstOK (n : Nat) : Option Tmp → Bool
  | some d => Nat.blt d n
  | none => true
theorem Rep.put {n : Nat} {a : Act} {e : Env} (h : Rep n a e) {d : Option Tmp} (hd : dstOK n d = true) (v : Value) : Rep n (a.put d v) (putO e d v) := by
  cases d with
  | none => exact h
  | some d =>
    have hd' : d < n := by simpa [dstOK] using hd
    refine ⟨h.defers, by simp [Act.put, h.size], fun t => ?_⟩
    have hg := h.get t
    simp only [Act.put, putO, Go.Proofs.Ytdfbeigjinhgiaa.put]
    by_cases ht : t = d
    · subst ht
      simp [h.size, hd']
    · rw [if_neg ht, ← hg]
      simp [Array.getElem?_setIfInBounds_ne (Ne.symm ht)]

/-! ### regions -/
def PostN (W : World) (n : Nat) (Q : Env → HL → Prop) : Exit → Act → World → Prop
  | .normal, a, w => ∃ e H, Rep n a e ∧ Own W w H ∧ Q e H
  | _, _, _ => False
def RS (P : Program) (W : World) (n : Nat) (ops : Array Oper) (Q : Env → HL → Prop) (rest : List Oper) (e : Env) (H : HL) : Prop :=
  ∀ a w, Rep n a e → Own W w H → wpList P ops (PostN W n Q) rest a w

section
variable {P : Program} {W : World} {n : Nat} {ops : Array Oper} {Q : Env → HL → Prop} {rest : List Oper} {e : Env} {H : HL}
theorem RS.nil (h : Q e H) : RS P W n ops Q [] e H := fun _ _ hr ho => ⟨e, H, hr, ho, h⟩
theorem RS.perm {H' : HL} (hs : H.Perm H') (h : RS P W n ops Q rest e H') : RS P W n ops Q rest e H := fun a w hr ho => h a w hr (ho.perm hs)
/-- One operation that hands back a value. -/
theorem RS.step {d : Option Tmp} {op : Op} {ty : TypeId} {pos : String} {af : Array Edge} (hd : dstOK n d = true)
    (h : ∀ w, Own W w H → ∃ v w' H', (execOp (ev e) ⟨d, op, ty, pos, af, none⟩).run P w = .ok (.value v) w' ∧ Own W w' H' ∧ RS P W n ops Q rest (putO e d v) H') :
    RS P W n ops Q (⟨d, op, ty, pos, af, none⟩ :: rest) e H := by
  intro a w hr ho
  obtain ⟨v, w', H', h1, h2, h3⟩ := h w ho
  simp only [wpList, Region.wanted, if_true]
  left
  unfold Oper.wp
  rw [hr.eval, h1, Oper.upon_value]
  exact h3 _ _ (hr.put hd v) h2
/-- One operation that hands back nothing (a store). -/
theorem RS.skip {d : Option Tmp} {op : Op} {ty : TypeId} {pos : String} {af : Array Edge} (hd : dstOK n d = true)
    (h : ∀ w, Own W w H → ∃ w' H', (execOp (ev e) ⟨d, op, ty, pos, af, none⟩).run P w = .ok .skip w' ∧ Own W w' H' ∧ RS P W n ops Q rest (putO e d undef) H') :
    RS P W n ops Q (⟨d, op, ty, pos, af, none⟩ :: rest) e H := by
  intro a w hr ho
  obtain ⟨w', H', h1, h2, h3⟩ := h w ho
  simp only [wpList, Region.wanted, if_true]
  left
  unfold Oper.wp
  rw [hr.eval, h1, Oper.upon_skip]
  exact h3 _ _ (hr.put hd _) h2
theorem RS.pure {d : Tmp} {op : Op} {ty : TypeId} {pos : String} {af : Array Edge} (v : Value) (hd : Nat.blt d n = true)
    (h : ∀ w, (execOp (ev e) ⟨some d, op, ty, pos, af, none⟩).run P w = .ok (.value v) w) (k : RS P W n ops Q rest (put e d v) H) :
    RS P W n ops Q (⟨some d, op, ty, pos, af, none⟩ :: rest) e H :=
  RS.step (d := some d) hd fun w ho => ⟨v, w, H, h w, ho, k⟩
/-- A guarded operation that runs. -/
theorem RS.on {d : Option Tmp} {op : Op} {ty : TypeId} {pos : String} {af : Array Edge} {j : Nat} {b : Bool} {dj : Tmp} (hj : (ops[j]?).bind (·.dst) = some dj) (hv : e dj = .bool b)
    (k : RS P W n ops Q (⟨d, op, ty, pos, af, none⟩ :: rest) e H) : RS P W n ops Q (⟨d, op, ty, pos, af, some (j, b)⟩ :: rest) e H := by
  intro a w hr ho
  have hk := k a w hr ho
  have hw : Region.wanted (⟨d, op, ty, pos, af, some (j, b)⟩ : Oper) (yielded ops a.tmps) = true := by
    have hg := hr.get dj
    rw [hv] at hg
    have hs : dj < a.tmps.size := by
      rcases Nat.lt_or_ge dj a.tmps.size with h' | h'
      · exact h'
      · simp [Array.getD, Nat.not_lt.2 h', undef] at hg
    simp [Array.getD, hs] at hg
    simp [Region.wanted, yielded, hj, hs, hg]
  simp only [wpList, hw, if_true]
  simp only [wpList, Region.wanted, if_true] at hk
  exact hk
/-- A guarded operation that does not run. -/
theorem RS.off {d : Option Tmp} {op : Op} {ty : TypeId} {pos : String} {af : Array Edge} {j : Nat} {b c : Bool} {dj : Tmp} (hj : (ops[j]?).bind (·.dst) = some dj) (hv : e dj = .bool c ∨ e dj = undef) (hbc : (e dj = .bool c → c = !b))
    (hd : dstOK n d = true) (k : RS P W n ops Q rest (putO e d undef) H) : RS P W n ops Q (⟨d, op, ty, pos, af, some (j, b)⟩ :: rest) e H := by
  intro a w hr ho
  have hk := k _ _ (hr.put hd undef) ho
  have hw : Region.wanted (⟨d, op, ty, pos, af, some (j, b)⟩ : Oper) (yielded ops a.tmps) = false := by
    have hg := hr.get dj
    by_cases hs : dj < a.tmps.size
    · simp [Array.getD, hs] at hg
      rcases hv with hv | hv
      · have := hbc hv
        subst this
        rw [hv] at hg
        simp [Region.wanted, yielded, hj, hs, hg]
      · rw [hv] at hg
        simp [Region.wanted, yielded, hj, hs, hg, undef]
    · simp [Region.wanted, yielded, hj, hs]
  simp only [wpList, hw]
  exact hk
end

theorem RS.split {P : Program} {W : World} {n : Nat} {ops : Array Oper} {Q : Env → HL → Prop} {rest : List Oper} {e : Env} {H : HL} {dj : Tmp} {b : Bool} (_ : e dj = .bool b) (ht : b = true → RS P W n ops Q rest e H) (hf : b = false → RS P W n ops Q rest e H) : RS P W n ops Q rest e H := by
  cases b
  · exact hf rfl
  · exact ht rfl

/-! ### code -/
def PostC (W : World) (n : Nat) (Q : Exit → Env → HL → Prop) (x : Exit) (a : Act) (w : World) : Prop := ∃ e H, Rep n a e ∧ Own W w H ∧ Q x e H
def CS (P : Program) (W : World) (n : Nat) (c : Code) (Q : Exit → Env → HL → Prop) (e : Env) (H : HL) : Prop :=
  ∀ a w, Rep n a e → Own W w H → c.wp P (PostC W n Q) a w
def thenC (k : Env → HL → Prop) (Q : Exit → Env → HL → Prop) : Exit → Env → HL → Prop
  | .normal, e, H => k e H
  | x, e, H => Q x e H
def blockC (id : Nat) (Q : Exit → Env → HL → Prop) : Exit → Env → HL → Prop
  | .exit i, e, H => if i = id then Q .normal e H else Q (.exit i) e H
  | x, e, H => Q x e H
def mix (l : List Nat) (e g : Env) : Env := fun t => if l.contains t then g t else e t
def puts (e : Env) : List (Nat × Value) → Env
  | [] => e
  | (d, v) :: l => put (puts e l) d v
theorem frame_mix {l : List Nat} {e g : Env} {t : Nat} (ht : l.contains t = false) : mix l e g t = e t := by
  unfold mix; rw [ht]; rfl
theorem frame_put {l : List Nat} {e : Env} {d t : Nat} {v r : Value} (hd : l.contains d = true) (ht : l.contains t = false) (h : e t = r) : put e d v t = r := by
  unfold put
  rw [if_neg (fun hh => by subst hh; rw [hd] at ht; cases ht)]
  exact h
theorem kn_nil {e : Env} : ∀ p ∈ ([] : List (Nat × Value)), e p.1 = p.2 := fun _ h => by cases h
theorem kn_cons {e : Env} {t : Nat} {v : Value} {l : List (Nat × Value)} (h : e t = v) (hl : ∀ p ∈ l, e p.1 = p.2) : ∀ p ∈ (t, v) :: l, e p.1 = p.2 := fun p hp => by
  rcases List.mem_cons.1 hp with rfl | hp
  · exact h
  · exact hl p hp
theorem frame_puts {l : List Nat} {e : Env} {t : Nat} {r : Value} (ht : l.contains t = false) (h : e t = r) : ∀ (kn : List (Nat × Value)), kn.all (fun p => l.contains p.1) = true → puts e kn t = r
  | [], _ => h
  | (d, v) :: kn, hk => by
    simp only [List.all_cons, Bool.and_eq_true] at hk
    exact frame_put hk.1 ht (frame_puts ht h kn hk.2)
theorem frame_mix2 {l l' : List Nat} {e g : Env} {t : Nat} {r : Value} (hs : l'.all l.contains = true) (ht : l.contains t = false) (h : e t = r) : mix l' e g t = r := by
  have h1 : l'.contains t = false := by
    cases hc : l'.contains t with
    | false => rfl
    | true =>
      have h2 := List.all_eq_true.1 hs t (by simpa using hc)
      rw [ht] at h2; cases h2
  rw [frame_mix h1, h]
theorem of_bne_false {α : Type} [BEq α] [LawfulBEq α] {a b : α} (h : (a != b) = false) : a = b := by simpa using h

inductive Rem (b : B) : HL → HL → Prop where
  | head {H : HL} : Rem b (b :: H) H
  | tail {c : B} {H H' : HL} (h : Rem b H H') : Rem b (c :: H) (c :: H')
theorem Rem.perm {b : B} {H H' : HL} (h : Rem b H H') : H.Perm (b :: H') := by
  induction h with
  | head => exact .refl _
  | @tail c H H' _ ih => exact (ih.cons c).trans (.swap ..)
/-- What of the call's blocks is kept, in whatever order. -/
inductive Sbp : HL → HL → Prop where
  | refl {H : HL} : Sbp H H
  | nil {H : HL} : Sbp [] H
  | cons {b : B} {L H H' : HL} (h : Rem b H H') (k : Sbp L H') : Sbp (b :: L) H
  | skip {b : B} {L H : HL} (k : Sbp L H) : Sbp L (b :: H)
  | app {H K : HL} : Sbp H (H ++ K)
theorem Sbp.perm {L H : HL} (h : Sbp L H) : ∃ K, H.Perm (L ++ K) := by
  induction h with
  | @refl H => exact ⟨[], by rw [List.append_nil]⟩
  | @nil H => exact ⟨H, .refl _⟩
  | cons h _ ih =>
    obtain ⟨K, hk⟩ := ih
    exact ⟨K, h.perm.trans (hk.cons _)⟩
  | @skip b L H _ ih =>
    obtain ⟨K, hk⟩ := ih
    exact ⟨b :: K, (hk.cons b).trans List.perm_middle.symm⟩
  | @app H K => exact ⟨K, .refl _⟩
theorem Own.sbp {W w : World} {H L : HL} (h : Own W w H) (s : Sbp L H) : Own W w L := by
  obtain ⟨K, hk⟩ := s.perm
  exact (h.perm hk).sub (List.sublist_append_left _ _)

/-- what a round of a loop comes to -/
def loopQ {X : Type} (Wr : List Nat) (e : Env) (kn : X → List (Nat × Value)) (Hx : X → HL) (Φ : X → Prop) (μ : X → Nat) (m : Nat) (Q : Exit → Env → HL → Prop) : Exit → Env → HL → Prop
  | .normal, e', H' => (∀ t, Wr.contains t = false → e' t = e t) ∧ ∃ x', Φ x' ∧ μ x' < m ∧ (∀ p ∈ kn x', e' p.1 = p.2) ∧ Sbp (Hx x') H'
  | ex, e', H' => Q ex e' H'
/-- what holds at a join -/
def cutQ {X : Type} (Wr : List Nat) (e : Env) (kn : X → List (Nat × Value)) (Hx : X → HL) (Φ : X → Prop) (Q : Exit → Env → HL → Prop) : Exit → Env → HL → Prop
  | .normal, e', H' => (∀ t, Wr.contains t = false → e' t = e t) ∧ ∃ z, Φ z ∧ (∀ p ∈ kn z, e' p.1 = p.2) ∧ Sbp (Hx z) H'
  | ex, e', H' => Q ex e' H'
section
variable {P : Program} {W : World} {n : Nat} {Q : Exit → Env → HL → Prop} {e e0 : Env} {H : HL} {K : Env → HL → Prop} {i j : Nat} {X : Type} {Wr : List Nat} {kn : X → List (Nat × Value)} {Hx : X → HL} {Φ : X → Prop} {μ : X → Nat} {m : Nat}
theorem thenC_n (h : K e H) : thenC K Q .normal e H := h
theorem thenC_r (h : Q .ret e H) : thenC K Q .ret e H := h
theorem thenC_x (h : Q (.exit i) e H) : thenC K Q (.exit i) e H := h
theorem blockC_n (h : Q .normal e H) : blockC j Q .normal e H := h
theorem blockC_r (h : Q .ret e H) : blockC j Q .ret e H := h
theorem blockC_x (h : Q .normal e H) : blockC i Q (.exit i) e H := by unfold blockC; simp only [if_true]; exact h
theorem loopQ_n (hf : ∀ t, Wr.contains t = false → e t = e0 t) (h : ∃ x', Φ x' ∧ μ x' < m ∧ (∀ p ∈ kn x', e p.1 = p.2) ∧ Sbp (Hx x') H) : loopQ Wr e0 kn Hx Φ μ m Q .normal e H := ⟨hf, h⟩
theorem loopQ_r (h : Q .ret e H) : loopQ Wr e0 kn Hx Φ μ m Q .ret e H := h
theorem loopQ_x (h : Q (.exit i) e H) : loopQ Wr e0 kn Hx Φ μ m Q (.exit i) e H := h
theorem cutQ_n (hf : ∀ t, Wr.contains t = false → e t = e0 t) (h : ∃ z, Φ z ∧ (∀ p ∈ kn z, e p.1 = p.2) ∧ Sbp (Hx z) H) : cutQ Wr e0 kn Hx Φ Q .normal e H := ⟨hf, h⟩
end

section
variable {P : Program} {W : World} {n : Nat} {Q : Exit → Env → HL → Prop} {e : Env} {H : HL}
theorem CS.perm {c : Code} {H' : HL} (hs : H.Perm H') (h : CS P W n c Q e H') : CS P W n c Q e H := fun a w hr ho => h a w hr (ho.perm hs)
theorem CS.mono {c : Code} {Q' : Exit → Env → HL → Prop} (h : CS P W n c Q e H) (hq : ∀ x e H, Q x e H → Q' x e H) : CS P W n c Q' e H :=
  fun a w hr ho => wp_mono (h a w hr ho) fun x _ _ ⟨e', H', h1, h2, h3⟩ => ⟨e', H', h1, h2, hq _ _ _ h3⟩
theorem CS.skip (h : Q .normal e H) : CS P W n .skip Q e H := fun _ _ hr ho => wp_skip ⟨e, H, hr, ho, h⟩
theorem CS.exit {i : Nat} (h : Q (.exit i) e H) : CS P W n (.exit i) Q e H := fun _ _ hr ho => wp_exit ⟨e, H, hr, ho, h⟩
theorem CS.ret (h : Q .ret e H) : CS P W n .ret Q e H := fun _ _ hr ho => wp_ret ⟨e, H, hr, ho, h⟩
theorem CS.seq {x y : Code} (h : CS P W n x (thenC (fun e H => CS P W n y Q e H) Q) e H) : CS P W n (.seq x y) Q e H := by
  intro a w hr ho
  refine wp_seq (wp_mono (h a w hr ho) fun x a' w' hq => ?_)
  obtain ⟨e', H', h1, h2, h3⟩ := hq
  cases x <;> simp only [thenC] at h3 <;> simp only [Exit.then] <;> first | exact h3 _ _ h1 h2 | exact ⟨e', H', h1, h2, h3⟩
theorem CS.cond {c : Operand} {x y : Code} {b : Bool} (hc : ev e c = .bool b) (ht : b = true → CS P W n x Q e H) (hf : b = false → CS P W n y Q e H) : CS P W n (.cond c x y) Q e H := by
  intro a w hr ho
  refine wp_cond_split (t := b) (by rw [hr.eval]; exact hc) (fun h => ht h a w hr ho) (fun h => hf h a w hr ho)
theorem CS.condT {c : Operand} {x y : Code} {b : Bool} (hc : ev e c = .bool b) (hb : b = true) (h : CS P W n x Q e H) : CS P W n (.cond c x y) Q e H :=
  CS.cond hc (fun _ => h) (fun h0 => by rw [hb] at h0; cases h0)
theorem CS.condF {c : Operand} {x y : Code} {b : Bool} (hc : ev e c = .bool b) (hb : b = false) (h : CS P W n y Q e H) : CS P W n (.cond c x y) Q e H :=
  CS.cond hc (fun h0 => by rw [hb] at h0; cases h0) (fun _ => h)
/-- a join: what holds there of the slots that have been written -/
theorem CS.cut {x y : Code} (Wr : List Nat) {X : Type} (kn : X → List (Nat × Value)) (Hx : X → HL) (Φ : X → Prop)
    (h : CS P W n x (cutQ Wr e kn Hx Φ Q) e H)
    (k : ∀ z g, Φ z → CS P W n y Q (puts (mix Wr e g) (kn z)) (Hx z)) : CS P W n (.seq x y) Q e H := by
  refine CS.seq (CS.mono h fun ex e' H' hq => ?_)
  cases ex <;> simp only [cutQ] at hq <;> simp only [thenC]
  · obtain ⟨hf, z, hz, hk, hs⟩ := hq
    have hm : mix Wr e e' = e' := by
      funext t
      simp only [mix]
      split
      · rfl
      · rename_i ht; exact (hf t (by simpa using ht)).symm
    have hp : ∀ (l : List (Nat × Value)), (∀ p ∈ l, e' p.1 = p.2) → puts e' l = e' := by
      intro l
      induction l with
      | nil => intro _; rfl
      | cons p l ih =>
        intro h1
        obtain ⟨d, v⟩ := p
        have h2 := ih (fun q hq => h1 q (List.mem_cons_of_mem _ hq))
        simp only [puts, h2]
        funext t
        simp only [put]
        split
        · rename_i ht; subst ht; exact (h1 (t, v) (List.mem_cons_self ..)).symm
        · rfl
    have := k z e' hz
    rw [hm, hp _ hk] at this
    exact fun a w hr ho => this a w hr (ho.sbp hs)
  all_goals exact hq
theorem CS.block {i : Nat} {c : Code} (h : CS P W n c (blockC i Q) e H) : CS P W n (.block i c) Q e H := by
  intro a w hr ho
  refine wp_block (wp_mono (h a w hr ho) fun x a' w' hq => ?_)
  obtain ⟨e', H', h1, h2, h3⟩ := hq
  cases x <;> simp only [blockC] at h3 <;> simp only [Exit.inBlock] <;> first | exact ⟨e', H', h1, h2, h3⟩ | skip
  split
  · rename_i hi; simp only [hi, if_true] at h3; exact ⟨e', H', h1, h2, h3⟩
  · rename_i hi; simp only [hi, if_false] at h3; exact ⟨e', H', h1, h2, h3⟩
theorem CS.region {i : Nat} {l : List Oper} (h : RS P W n l.toArray (fun e H => Q .normal e H) l e H) : CS P W n (.region i l.toArray false) Q e H := by
  intro a w hr ho
  refine wp_mono (wp_region_lit (h a w hr ho)) fun x a' w' hq => ?_
  cases x <;> simp only [PostN] at hq
  exact hq
/-- A loop: its state is a value of X; 'kn': the slots that are known at each round's head; 'Wr': the slots that a round writes. -/
theorem CS.loop {c : Code} {X : Type} (Wr : List Nat) (kn : X → List (Nat × Value)) (Hx : X → HL) (Φ : X → Prop) (μ : X → Nat) (x0 : X) (h0 : Φ x0)
    (he : ∀ p ∈ kn x0, e p.1 = p.2) (hH : Sbp (Hx x0) H)
    (round : ∀ x g, Φ x → CS P W n c (loopQ Wr e kn Hx Φ μ (μ x) Q) (puts (mix Wr e g) (kn x)) (Hx x)) : CS P W n (.loop c) Q e H := by
  intro a w hr ho
  have put_self : ∀ (l : List (Nat × Value)) (e1 : Env), (∀ p ∈ l, e1 p.1 = p.2) → puts e1 l = e1 := by
    intro l
    induction l with
    | nil => intro e1 _; rfl
    | cons p l ih =>
      intro e1 h1
      obtain ⟨d, v⟩ := p
      have h2 := ih e1 (fun q hq => h1 q (List.mem_cons_of_mem _ hq))
      simp only [puts, h2]
      funext t
      simp only [put]
      split
      · rename_i ht; subst ht; exact (h1 (t, v) (List.mem_cons_self ..)).symm
      · rfl
  refine wp_loop_ghost (fun k a w => ∃ x e', Φ x ∧ μ x = k ∧ Rep n a e' ∧ Own W w (Hx x) ∧ (∀ t, Wr.contains t = false → e' t = e t) ∧ (∀ p ∈ kn x, e' p.1 = p.2)) (μ x0) ⟨x0, e, h0, rfl, hr, ho.sbp hH, fun _ _ => rfl, he⟩ ?_
  rintro k a' w' ⟨x, e', hx, rfl, hr', ho', hf, hk⟩
  have hm : mix Wr e e' = e' := by
    funext t
    simp only [mix]
    split
    · rfl
    · rename_i ht; exact (hf t (by simpa using ht)).symm
  have hp : puts (mix Wr e e') (kn x) = e' := by rw [hm]; exact put_self _ _ hk
  have := round x e' hx a' w' (by rw [hp]; exact hr') ho'
  refine wp_mono this fun ex a2 w2 hq => ?_
  obtain ⟨e2, H2, h1, h2, h3⟩ := hq
  cases ex <;> simp only [loopQ] at h3 <;> simp only [Exit.then]
  · obtain ⟨hf2, x2, hx2, hlt, hk2, hs2⟩ := h3
    exact ⟨μ x2, hlt, x2, e2, hx2, rfl, h1, h2.sbp hs2, hf2, hk2⟩
  all_goals exact ⟨e2, H2, h1, h2, h3⟩
end
end Go.Proofs.Ytdfbeigjinhgiaa

namespace Go.Proofs.Ytdfbeigjinhgiaa
open Go Go.RowKit

/-! ### types, as closed facts -/
def agD : TypeDesc → Bool
  | .struct _ | .array _ _ => true
  | _ => false
/-- The zero cells of a type, whether it is made of several cells, its bytes. -/
def tyChk (P : Program) (t : TypeId) : Option (List Value × Bool × Nat) :=
  match P.info? t, P.underlying t with
  | some i, some d => match i.zero with
    | some zv => if i.size = zv.cells.size then some (zv.cells.toList, agD d, i.bytes) else none
    | none => none
  | _, _ => none
structure TyF (P : Program) (t : TypeId) (z : List Value) (ag : Bool) (by_ : Nat) : Prop where
  ex : ∃ i zv d, P.info? t = some i ∧ P.underlying t = some d ∧ i.zero = some zv ∧ i.size = z.length ∧ zv.cells = z.toArray ∧ agD d = ag ∧ i.bytes = by_
theorem tyF {P : Program} {t : TypeId} {z : List Value} {ag : Bool} {by_ : Nat} (h : tyChk P t = some (z, ag, by_)) : TyF P t z ag by_ := by
  unfold tyChk at h
  split at h
  · rename_i i d hi hd
    split at h
    · rename_i zv hz
      split at h
      · rename_i hs
        simp only [Option.some.injEq, Prod.mk.injEq] at h
        obtain ⟨h1, h2, h3⟩ := h
        exact ⟨i, zv, d, hi, hd, hz, by simp [hs, ← h1], by simp [← h1], h2, h3⟩
      · cases h
    · cases h
  · cases h
section
variable {P : Program} {w : World} {t : TypeId} {z : List Value} {ag : Bool} {by_ : Nat}
theorem run_zero (h : tyChk P t = some (z, ag, by_)) : ∃ zv, (zeroValue t).run P w = .ok zv w ∧ zv.cells = z.toArray := by
  obtain ⟨i, zv, d, hi, hd, hz, hs, hc, ha, hb⟩ := (tyF h).ex
  exact ⟨zv, by simp [zeroValue, typeInfo, hi, hz], hc⟩
theorem run_size (h : tyChk P t = some (z, ag, by_)) : (sizeOf t).run P w = .ok z.length w := by
  obtain ⟨i, zv, d, hi, hd, hz, hs, hc, ha, hb⟩ := (tyF h).ex
  simp [sizeOf, typeInfo, hi, hs]
theorem run_ag (h : tyChk P t = some (z, ag, by_)) : (isAgg t).run P w = .ok ag w := by
  obtain ⟨i, zv, d, hi, hd, hz, hs, hc, ha, hb⟩ := (tyF h).ex
  cases d <;> simp_all [isAgg, run_underlying hd, agD]
end

/-- A Go function that may be entered. -/
def callOK (P : Program) (f : FuncId) : Bool :=
  match P.funcs[f]? with
  | some fn => fn.name != "runtime.NumGoroutine" && fn.body.isSome
  | none => false
theorem run_callFunc {P : Program} {w : World} {f : FuncId} (h : callOK P f = true) (args : Array Value) : (callFunc f args).run P w = .ok (.enter f args) w := by
  unfold callOK at h
  split at h
  · rename_i fn hf
    simp only [Bool.and_eq_true, bne_iff_ne, ne_eq] at h
    have h2 : ¬ fn.body = none := by intro hb; simp [hb] at h
    simp [callFunc, hf, h.1, h2]
  · cases h

/-! ### contracts -/
def FnPost (W : World) (R : Value → HL → Prop) (x : Ending) (w' : World) : Prop := ∃ v H, x = .returned v ∧ Own W w' H ∧ R v H
/-- Called in world W, function f hands back a value and leaves blocks of its own that stand in the relation R. -/
def Fn_ (P : Program) (f : FuncId) (args : Array Value) (W : World) (R : Value → HL → Prop) : Prop := Calls P f args W (FnPost W R)
theorem Fn_.mono {P : Program} {f : FuncId} {args : Array Value} {W : World} {R R' : Value → HL → Prop} (h : Fn_ P f args W R) (hr : ∀ v H, R v H → R' v H) : Fn_ P f args W R' :=
  Calls.mono h fun _ _ ⟨v, H, h1, h2, h3⟩ => ⟨v, H, h1, h2, hr _ _ h3⟩

/-- An operation that only reads, over the blocks H: its value. -/
def QO (P : Program) (W : World) (H : HL) (e : Env) (op : Op) (ty : TypeId) (v : Value) : Prop :=
  ∀ (d : Option Tmp) (pos : String) (af : Array Edge) (gd : Option (Nat × Bool)) (w : World), Own W w H → (execOp (ev e) ⟨d, op, ty, pos, af, gd⟩).run P w = .ok (.value v) w
theorem w64 {a : Int} (h1 : -9223372036854775808 ≤ a) (h2 : a ≤ 9223372036854775807) : IntKind.i64.wrap a = a := by rw [IntKind.wrap_i64]; omega
theorem addr_add (g o k : Nat) : (⟨g, o, none⟩ : Addr).add k = ⟨g, o + k, none⟩ := by
  unfold Addr.add; split <;> simp_all
/-- On integers: what the kind's arithmetic gives. -/
def ib (op : BinOp) (k : IntKind) (i j : Int) : Value :=
  match op with
  | .add => .int k (k.wrap (i + j))
  | .sub => .int k (k.wrap (i - j))
  | .mul => .int k (k.wrap (i * j))
  | .quo => .int k (k.wrap (i.tdiv j))
  | .rem => .int k (i.tmod j)
  | .eql => .bool (i == j)
  | .neq => .bool (i != j)
  | .lss => .bool (decide (i < j))
  | .leq => .bool (decide (i ≤ j))
  | .gtr => .bool (decide (j < i))
  | .geq => .bool (decide (j ≤ i))
  | .and => .int k (k.wrap (BitVec.ofInt k.bits i &&& BitVec.ofInt k.bits j).toNat)
  | .or => .int k (k.wrap (BitVec.ofInt k.bits i ||| BitVec.ofInt k.bits j).toNat)
  | .xor => .int k (k.wrap (BitVec.ofInt k.bits i ^^^ BitVec.ofInt k.bits j).toNat)
  | .andNot => .int k (k.wrap (BitVec.ofInt k.bits i &&& ~~~ BitVec.ofInt k.bits j).toNat)
  | .shl => .int k (k.wrap (i * 2 ^ (min j.toNat k.bits)))
  | .shr => .int k (i.fdiv (2 ^ (min j.toNat k.bits)))
def ibOK (op : BinOp) (j : Int) : Prop :=
  match op with
  | .quo | .rem => j ≠ 0
  | .shl | .shr => 0 ≤ j
  | .add | .sub | .mul | .eql | .neq | .lss | .leq | .gtr | .geq | .and | .or | .xor | .andNot => True
section
variable {P : Program} {W : World} {n : Nat} {e : Env} {H : HL}
variable {ty t t' : TypeId} {x y z : Operand} {u v : Value} {zs : List Value} {ag : Bool} {by_ : Nat}
theorem eqg_int (op : BinOp) (x y : Operand) (k k' : IntKind) (i j : Int) (w : World) : (eqGuard op t x y (.int k i) (.int k' j)).run P w = .ok () w := by
  cases op <;> rfl
theorem eqg_float (op : BinOp) (x y : Operand) (k k' : FloatKind) (i j : Nat) (w : World) : (eqGuard op t x y (.float k i) (.float k' j)).run P w = .ok () w := by
  cases op <;> rfl
theorem QO.move : QO P W H e (.move x) ty (ev e x) := fun d pos af gd w _ => by simp [execOp]
theorem QO.assign : QO P W H e (.assign x) ty (ev e x) := fun d pos af gd w _ => by simp [execOp]
theorem QO.pick {b : Bool} (hx : ev e x = .bool b) : QO P W H e (.pick x y z) ty (if b then ev e y else ev e z) := fun d pos af gd w _ => by simp [execOp, hx, asBool]
theorem QO.bin {op : BinOp} (hx : ev e x = u) (hy : ev e y = v) {r : Value} (hq : ∀ w, (do eqGuard op t x y u v; binOp op t u v : Sem Value).run P w = .ok r w) : QO P W H e (.binOp op t x y t') ty r := fun d pos af gd w _ => by
  have := hq w; simp only [execOp, hx, hy]; simp only [Sem.run_bind] at this ⊢; rw [this]; rfl
theorem QO.ibin {op : BinOp} {k : IntKind} {i j : Int} (hx : ev e x = .int k i) (hy : ev e y = .int k j) (ok : ibOK op j) : QO P W H e (.binOp op t x y t') ty (ib op k i j) := by
  refine QO.bin hx hy (fun w => ?_)
  simp only [Sem.run_bind, eqg_int, Result.andThen_ok]
  cases op <;> simp only [ibOK] at ok <;> simp [binOp, ib, Op.intArith, Op.intDiv, Op.intBits, Op.intCmp, Op.shift, ok]
  all_goals (have : ¬ j < 0 := by omega); simp [this]
theorem QO.add {i j : Int} (hx : ev e x = .int .i64 i) (hy : ev e y = .int .i64 j) (h1 : -9223372036854775808 ≤ i + j) (h2 : i + j ≤ 9223372036854775807) : QO P W H e (.binOp .add t x y t') ty (.int .i64 (i + j)) := by
  have := QO.ibin (P := P) (W := W) (H := H) (ty := ty) (t := t) (t' := t') hx hy (op := .add) trivial; simpa only [ib, w64 h1 h2] using this
theorem QO.sub {i j : Int} (hx : ev e x = .int .i64 i) (hy : ev e y = .int .i64 j) (h1 : -9223372036854775808 ≤ i - j) (h2 : i - j ≤ 9223372036854775807) : QO P W H e (.binOp .sub t x y t') ty (.int .i64 (i - j)) := by
  have := QO.ibin (P := P) (W := W) (H := H) (ty := ty) (t := t) (t' := t') hx hy (op := .sub) trivial; simpa only [ib, w64 h1 h2] using this
theorem QO.mul {i j : Int} (hx : ev e x = .int .i64 i) (hy : ev e y = .int .i64 j) (h1 : -9223372036854775808 ≤ i * j) (h2 : i * j ≤ 9223372036854775807) : QO P W H e (.binOp .mul t x y t') ty (.int .i64 (i * j)) := by
  have := QO.ibin (P := P) (W := W) (H := H) (ty := ty) (t := t) (t' := t') hx hy (op := .mul) trivial; simpa only [ib, w64 h1 h2] using this
theorem QO.quo {i j : Int} (hx : ev e x = .int .i64 i) (hy : ev e y = .int .i64 j) (h0 : 0 < j) (h1 : -9223372036854775808 ≤ i) (h2 : i ≤ 9223372036854775807) : QO P W H e (.binOp .quo t x y t') ty (.int .i64 (i.tdiv j)) := by
  have hb : (i.tdiv j).natAbs ≤ i.natAbs := by rw [Int.natAbs_tdiv]; exact Nat.div_le_self ..
  have hw : IntKind.i64.wrap (i.tdiv j) = i.tdiv j := by
    by_cases hi : 0 ≤ i
    · have := Int.tdiv_nonneg hi (by omega : 0 ≤ j)
      exact w64 (by omega) (by omega)
    · have h3 := Int.tdiv_nonneg (show 0 ≤ -i by omega) (by omega : 0 ≤ j)
      rw [Int.neg_tdiv] at h3
      exact w64 (by omega) (by omega)
  have := QO.ibin (P := P) (W := W) (H := H) (ty := ty) (t := t) (t' := t') hx hy (op := .quo) (show j ≠ 0 by omega); simpa only [ib, hw] using this
theorem QO.rem {k : IntKind} {i j : Int} (hx : ev e x = .int k i) (hy : ev e y = .int k j) (h0 : j ≠ 0) : QO P W H e (.binOp .rem t x y t') ty (.int k (i.tmod j)) := QO.ibin hx hy (op := .rem) h0
theorem QO.lss {k : IntKind} {i j : Int} (hx : ev e x = .int k i) (hy : ev e y = .int k j) : QO P W H e (.binOp .lss t x y t') ty (.bool (decide (i < j))) := QO.ibin hx hy (op := .lss) trivial
theorem QO.leq {k : IntKind} {i j : Int} (hx : ev e x = .int k i) (hy : ev e y = .int k j) : QO P W H e (.binOp .leq t x y t') ty (.bool (decide (i ≤ j))) := QO.ibin hx hy (op := .leq) trivial
theorem QO.gtr {k : IntKind} {i j : Int} (hx : ev e x = .int k i) (hy : ev e y = .int k j) : QO P W H e (.binOp .gtr t x y t') ty (.bool (decide (j < i))) := QO.ibin hx hy (op := .gtr) trivial
theorem QO.geq {k : IntKind} {i j : Int} (hx : ev e x = .int k i) (hy : ev e y = .int k j) : QO P W H e (.binOp .geq t x y t') ty (.bool (decide (j ≤ i))) := QO.ibin hx hy (op := .geq) trivial
theorem QO.eql {k : IntKind} {i j : Int} (hx : ev e x = .int k i) (hy : ev e y = .int k j) : QO P W H e (.binOp .eql t x y t') ty (.bool (i == j)) := QO.ibin hx hy (op := .eql) trivial
theorem QO.neq {k : IntKind} {i j : Int} (hx : ev e x = .int k i) (hy : ev e y = .int k j) : QO P W H e (.binOp .neq t x y t') ty (.bool (i != j)) := QO.ibin hx hy (op := .neq) trivial
/-- On floats: comparisons. -/
theorem QO.fcmp {op : BinOp} {k : FloatKind} {i j : Nat} {b : Bool} (hx : ev e x = .float k i) (hy : ev e y = .float k j) (hb : ∀ w, (Op.floatCmp op k i j).run P w = .ok (.bool b) w)
    (hop : op = .eql ∨ op = .neq ∨ op = .lss ∨ op = .leq ∨ op = .gtr ∨ op = .geq) : QO P W H e (.binOp op t x y t') ty (.bool b) := by
  refine QO.bin hx hy (fun w => ?_)
  simp only [Sem.run_bind, eqg_float, Result.andThen_ok]
  rcases hop with h | h | h | h | h | h <;> subst h <;> simp [binOp, hb]
theorem QO.not {b : Bool} (hx : ev e x = .bool b) : QO P W H e (.unOp .not t x) ty (.bool !b) := fun d pos af gd w _ => by simp [execOp, hx, Op.unary]
/-! loads -/
theorem QO.load {g o : Nat} {tb : TypeId} {cs : List Value} (ht : tyChk P t = some (zs, false, by_)) (hx : ev e x = .pointer (some ⟨g, o, none⟩)) (hm : (⟨g, tb, cs⟩ : B) ∈ H) (hv : cs[o]? = some v) : QO P W H e (.load t x) ty v := fun d pos af gd w ho => by
  have hc : w.cell? ⟨g, o, none⟩ = some v := by rw [(ho.blk _ hm).2.cell]; exact hv
  simp [execOp, hx, Instr.loadAt, Instr.sureAddr, loadVar, run_ag ht, run_load, hc]
theorem QO.loadA {g o : Nat} {tb : TypeId} {cs vs : List Value} (ht : tyChk P t = some (zs, true, by_)) (hx : ev e x = .pointer (some ⟨g, o, none⟩)) (hm : (⟨g, tb, cs⟩ : B) ∈ H)
    (hv : (cs.drop o).take zs.length = vs) (hl : vs.length = zs.length) : QO P W H e (.load t x) ty (.agg vs.toArray) := fun d pos af gd w ho => by
  have hc : ∀ j v, vs[j]? = some v → w.cell? ((⟨g, o, none⟩ : Addr).add j) = some v := by
    intro j v hj
    rw [addr_add, (ho.blk _ hm).2.cell]
    rw [← hv, List.getElem?_take] at hj
    split at hj
    · rw [List.getElem?_drop] at hj; exact hj
    · cases hj
  have := run_loadCells_list (P := P) (w := w) ⟨g, o, none⟩ vs hc
  rw [hl] at this
  simp [execOp, hx, Instr.loadAt, Instr.sureAddr, loadVar, run_ag ht, run_size ht, this]
/-- the whole block -/
theorem QO.loadB {g : Nat} {tb : TypeId} {cs : List Value} (ht : tyChk P t = some (zs, true, by_)) (hx : ev e x = .pointer (some ⟨g, 0, none⟩)) (hm : (⟨g, tb, cs⟩ : B) ∈ H)
    (hl : cs.length = zs.length) : QO P W H e (.load t x) ty (.agg cs.toArray) := QO.loadA ht hx hm (by simp [← hl]) hl
theorem QO.loadO {a : Addr} (ht : tyChk P t = some (zs, false, by_)) (hx : ev e x = .pointer (some a)) (hc : W.cell? a = some v) : QO P W H e (.load t x) ty v := fun d pos af gd w ho => by
  simp [execOp, hx, Instr.loadAt, Instr.sureAddr, loadVar, run_ag ht, run_load, ho.old hc]
theorem QO.loadOA {a : Addr} {vs : List Value} (ht : tyChk P t = some (zs, true, by_)) (hx : ev e x = .pointer (some a)) (hc : ∀ j v, vs[j]? = some v → W.cell? (a.add j) = some v) (hl : vs.length = zs.length) : QO P W H e (.load t x) ty (.agg vs.toArray) := fun d pos af gd w ho => by
  have := run_loadCells_list (P := P) (w := w) a vs (fun j v hj => ho.old (hc j v hj))
  rw [hl] at this
  simp [execOp, hx, Instr.loadAt, Instr.sureAddr, loadVar, run_ag ht, run_size ht, this]
end
section
variable {P : Program} {W : World} {n : Nat} {ops : Array Oper} {Q : Env → HL → Prop} {rest : List Oper} {e : Env} {H : HL}
variable {d : Tmp} {ty t t' : TypeId} {pos : String} {af : Array Edge} {x y : Operand} {u v : Value} {z : List Value} {ag : Bool} {by_ : Nat}
theorem RS.q {op : Op} (hd : Nat.blt d n = true) (h : QO P W H e op ty v) (k : RS P W n ops Q rest (put e d v) H) : RS P W n ops Q (⟨some d, op, ty, pos, af, none⟩ :: rest) e H :=
  RS.step (d := some d) hd fun w ho => ⟨v, w, H, h _ _ _ _ w ho, ho, k⟩
theorem RS.qv {op : Op} {v' : Value} (hd : Nat.blt d n = true) (h : QO P W H e op ty v) (hv : v = v') (k : RS P W n ops Q rest (put e d v') H) : RS P W n ops Q (⟨some d, op, ty, pos, af, none⟩ :: rest) e H := by
  subst hv; exact RS.q hd h k
theorem RS.alloc (hd : Nat.blt d n = true) (ht : tyChk P t = some (z, ag, by_)) (k : ∀ g, RS P W n ops Q rest (put e d (.pointer (some ⟨g, 0, none⟩))) (⟨g, t, z⟩ :: H)) :
    RS P W n ops Q (⟨some d, .alloc t, ty, pos, af, none⟩ :: rest) e H := by
  refine RS.step (d := some d) hd fun w ho => ?_
  obtain ⟨zv, h1, h2⟩ := run_zero (w := w) ht
  refine ⟨_, _, _, ?_, ho.alloc t z, k _⟩
  simp [execOp, Instr.alloc, h1, newVar, newRow, h2]
theorem RS.box (hd : Nat.blt d n = true) (hx : ev e x = v) {cs : List Value} (hc : v.cells = cs.toArray) (k : ∀ g, RS P W n ops Q rest (put e d (.pointer (some ⟨g, 0, none⟩))) (⟨g, t, cs⟩ :: H)) :
    RS P W n ops Q (⟨some d, .box t x, ty, pos, af, none⟩ :: rest) e H := by
  refine RS.step (d := some d) hd fun w ho => ?_
  refine ⟨_, _, _, ?_, ho.alloc t cs, k _⟩
  simp [execOp, Instr.box, newVar, newRow, hx, hc]
/-! stores -/
theorem run_storeCells {g : Nat} {tb : TypeId} : ∀ (vs cs : List Value) (w : World) (o i : Nat), Blk w ⟨g, tb, cs⟩ → o + i + vs.length ≤ cs.length → (∀ v ∈ vs, v.oneCell' = true) →
    ∃ w', (storeCells ⟨g, o, none⟩ vs i).run P w = .ok () w' ∧ Blk w' ⟨g, tb, cs.take (o + i) ++ vs ++ cs.drop (o + i + vs.length)⟩ ∧ w'.heap.size = w.heap.size ∧ w'.os = w.os ∧ w'.tape = w.tape ∧ w'.output = w.output ∧
      ∀ k, k ≠ g → w'.heap[k]? = w.heap[k]? := by
  intro vs
  induction vs with
  | nil =>
    intro cs w o i hb hl _
    refine ⟨w, rfl, ?_, rfl, rfl, rfl, rfl, fun _ _ => rfl⟩
    simpa using hb
  | cons v vs ih =>
    intro cs w o i hb hl h1
    simp only [List.length_cons] at hl
    have hoi : o + i < cs.length := by omega
    have hb2 : Blk (w.setCell ⟨g, o + i, none⟩ v) ⟨g, tb, cs.set (o + i) v⟩ := by
      have hs := heap_setCell_same w g (o + i) cs.toArray tb v hb
      unfold Blk
      rw [hs]
      simp
    obtain ⟨w', r1, r2, r3, r4, r5, r6, r7⟩ := ih (cs.set (o + i) v) (w.setCell ⟨g, o + i, none⟩ v) o (i + 1) hb2 (by simp; omega) (fun u hu => h1 u (List.mem_cons_of_mem _ hu))
    refine ⟨w', ?_, ?_, by rw [r3]; simp, r4, r5, r6, fun k hk => (r7 k hk).trans (heap_setCell_other w _ k v hk)⟩
    · have hc : w.cell? ⟨g, o + i, none⟩ = some cs[o + i] := by rw [hb.cell]; exact List.getElem?_eq_getElem hoi
      have hf : w.frozen? ⟨g, o + i, none⟩ = false := hb.free _
      have hv : v.oneCell' = true := h1 v (List.mem_cons_self ..)
      unfold storeCells
      rw [addr_add]
      simp only [Sem.run_bind, run_store P w _ v _ hv, hc, hf]
      simpa using r1
    · have e1 : (cs.set (o + i) v).take (o + (i + 1)) = cs.take (o + i) ++ [v] := by
        rw [show o + (i + 1) = (o + i) + 1 from by omega, List.take_succ_eq_append_getElem (by simpa using hoi), List.take_set_of_le (Nat.le_refl _), List.getElem_set_self]
      have e2 : (cs.set (o + i) v).drop (o + (i + 1) + vs.length) = cs.drop (o + i + (v :: vs).length) := by
        rw [List.drop_set, if_pos (by omega)]
        congr 1
        simp; omega
      rw [e1, e2] at r2
      simpa using r2
theorem RS.store {g o : Nat} {tb : TypeId} {cs cs' vs : List Value} {H' : HL} (ht : tyChk P t = some (z, ag, by_)) (hx : ev e x = .pointer (some ⟨g, o, none⟩)) (hy : ev e y = v) (hc : v.cells = vs.toArray) (hl : vs.length = z.length)
    (h1 : vs.all (·.oneCell') = true) (hu : Upd g tb cs cs' H H') (ho : o + vs.length ≤ cs.length) (hcs : cs.take o ++ vs ++ cs.drop (o + vs.length) = cs')
    (k : RS P W n ops Q rest e H') : RS P W n ops Q (⟨none, .store t x y, ty, pos, af, none⟩ :: rest) e H := by
  refine RS.skip (d := none) rfl fun w hw => ?_
  obtain ⟨hg, hb⟩ := hw.blk _ hu.mem
  obtain ⟨w', r1, r2, r3, r4, r5, r6, r7⟩ := run_storeCells (P := P) vs cs w o 0 hb (by simpa using ho) (fun v hv => by simpa using List.all_eq_true.1 h1 v hv)
  refine ⟨w', H', ?_, hu.own hw ?_ (by simpa [hcs] using r2) (fun k hk _ => r7 k hk), k⟩
  · simp [execOp, hx, hy, Instr.storeAt, Instr.sureAddr, storeVar, hc, run_size ht, hl, r1]
  · refine hw.below.trans ⟨r4, r5, r6, by omega, fun k hk => r7 k ?_⟩
    have : W.heap.size ≤ g := hg
    omega
/-- a store of one cell -/
theorem RS.store1 {g o : Nat} {tb : TypeId} {cs : List Value} {H' : HL} (ht : tyChk P t = some (z, ag, by_)) (hz : z.length = 1) (hx : ev e x = .pointer (some ⟨g, o, none⟩)) (hy : ev e y = v) (h1 : v.oneCell' = true) (hu : Upd g tb cs (cs.set o v) H H') (ho : o < cs.length)
    (k : RS P W n ops Q rest e H') : RS P W n ops Q (⟨none, .store t x y, ty, pos, af, none⟩ :: rest) e H := by
  refine RS.store (vs := [v]) ht hx hy ?_ (by simp [hz]) (by simpa using h1) hu (by simp; omega) ?_ k
  · cases v <;> first | rfl | cases h1
  · simp [List.set_eq_take_append_cons_drop, ho]
/-- a store of one cell, what comes of it told -/
theorem RS.store1e {g o : Nat} {tb : TypeId} {cs cs' : List Value} {H' : HL} (ht : tyChk P t = some (z, ag, by_)) (hz : z.length = 1) (hx : ev e x = .pointer (some ⟨g, o, none⟩)) (hy : ev e y = v) (h1 : v.oneCell' = true) (hcs : cs.set o v = cs') (hu : Upd g tb cs cs' H H') (ho : o < cs.length)
    (k : RS P W n ops Q rest e H') : RS P W n ops Q (⟨none, .store t x y, ty, pos, af, none⟩ :: rest) e H := by
  subst hcs
  exact RS.store1 ht hz hx hy h1 hu ho k
/-- a store over the whole block -/
theorem RS.storeP {g o : Nat} {tb : TypeId} {cs vs : List Value} {H' : HL} (ht : tyChk P t = some (z, ag, by_)) (hx : ev e x = .pointer (some ⟨g, o, none⟩)) (hy : ev e y = v) (hc : v.cells = vs.toArray) (hl : vs.length = z.length)
    (h1 : vs.all (·.oneCell') = true) (hu : Upd g tb cs (cs.take o ++ vs ++ cs.drop (o + vs.length)) H H') (ho : Nat.ble (o + vs.length) cs.length = true)
    (k : RS P W n ops Q rest e H') : RS P W n ops Q (⟨none, .store t x y, ty, pos, af, none⟩ :: rest) e H := RS.store ht hx hy hc hl h1 hu (Nat.le_of_ble_eq_true ho) rfl k
theorem RS.storeB {g : Nat} {tb : TypeId} {cs vs : List Value} {H' : HL} (ht : tyChk P t = some (z, ag, by_)) (hx : ev e x = .pointer (some ⟨g, 0, none⟩)) (hy : ev e y = v) (hc : v.cells = vs.toArray) (hl : vs.length = z.length)
    (h1 : vs.all (·.oneCell') = true) (hu : Upd g tb cs vs H H') (ho : vs.length = cs.length)
    (k : RS P W n ops Q rest e H') : RS P W n ops Q (⟨none, .store t x y, ty, pos, af, none⟩ :: rest) e H :=
  RS.store ht hx hy hc hl h1 hu (by omega) (by simp [ho]) k
end
section
variable {P : Program} {W : World} {n : Nat} {e : Env} {H : HL} {ty : TypeId} {x y z : Operand}
theorem QO.pickT {b : Bool} {v : Value} (hx : ev e x = .bool b) (hb : b = true) (hv : ev e y = v) : QO P W H e (.pick x y z) ty v := by
  subst hb hv; exact QO.pick hx
theorem QO.pickF {b : Bool} {v : Value} (hx : ev e x = .bool b) (hb : b = false) (hv : ev e z = v) : QO P W H e (.pick x y z) ty v := by
  subst hb hv; exact QO.pick hx
end
end Go.Proofs.Ytdfbeigjinhgiaa

namespace Go.Proofs.Ytdfbeigjinhgiaa
open Go Go.RowKit

def fldOff (P : Program) (s : TypeId) (i : Nat) : Option (Nat × TypeId) :=
  match P.underlying s with
  | some (.struct fs) => match fs[i]? with
    | some f => match P.info? f.type with
      | some inf => if inf.size = 0 then none else some (f.offset, f.type)
      | none => none
    | none => none
  | _ => none
theorem fldOff_spec {P : Program} {s : TypeId} {i k : Nat} {tf : TypeId} (h : fldOff P s i = some (k, tf)) :
    ∃ fs f inf, P.underlying s = some (.struct fs) ∧ fs[i]? = some f ∧ P.info? f.type = some inf ∧ inf.size ≠ 0 ∧ f.offset = k ∧ f.type = tf := by
  unfold fldOff at h
  split at h
  · rename_i fs hu
    split at h
    · rename_i f hf
      split at h
      · rename_i inf hi
        split at h
        · cases h
        · rename_i hs
          simp only [Option.some.injEq, Prod.mk.injEq] at h
          exact ⟨fs, f, inf, hu, hf, hi, hs, h.1, h.2⟩
      · cases h
    · cases h
  · cases h

section
variable {P : Program} {W : World} {n : Nat} {e : Env} {H : HL}
variable {ty t t' tf : TypeId} {x y : Operand} {u v : Value} {z : List Value} {ag : Bool} {by_ : Nat}
theorem QO.fieldAddr {i k g o : Nat} (hf : fldOff P t i = some (k, tf)) (hx : ev e x = .pointer (some ⟨g, o, none⟩)) : QO P W H e (.fieldAddr t x i) ty (.pointer (some ⟨g, o + k, none⟩)) := fun d pos af gd w _ => by
  obtain ⟨fs, f, inf, hu, hfi, hi, hs, rfl, rfl⟩ := fldOff_spec hf
  simp [execOp, hx, Instr.fieldAt, run_underlying hu, hfi, Instr.sureAddr, fieldPlace, sizeOf, typeInfo, hi, hs, addr_add]
theorem QO.idx {k : IntKind} {i : Int} {g o l c : Nat} {el : TypeId} (hu : P.underlying t = some (.slice el)) (he : tyChk P el = some (z, ag, by_)) (hx : ev e x = .slice (some ⟨g, o, none⟩) l c) (hy : ev e y = .int k i)
    (h0 : 0 ≤ i) (h1 : i < l) : QO P W H e (.indexAddr t x y) ty (.pointer (some ⟨g, o + i.toNat * z.length, none⟩)) := fun d pos af gd w _ => by
  simp [execOp, hx, hy, Instr.indexAt, asIntOf, run_underlying hu, h0, h1, run_size he, addr_add]
theorem QO.idx1 {k : IntKind} {i : Int} {g o l c : Nat} {el : TypeId} (hu : P.underlying t = some (.slice el)) (he : tyChk P el = some ([u], ag, by_)) (hx : ev e x = .slice (some ⟨g, o, none⟩) l c) (hy : ev e y = .int k i)
    (h0 : 0 ≤ i) (h1 : i < l) : QO P W H e (.indexAddr t x y) ty (.pointer (some ⟨g, o + i.toNat, none⟩)) := by
  have := QO.idx (P := P) (W := W) (H := H) (ty := ty) hu he hx hy h0 h1; simpa using this
/-- at a number that is told -/
theorem QO.idxn {k : IntKind} {i : Int} {j g o l c : Nat} {el : TypeId} (hu : P.underlying t = some (.slice el)) (he : tyChk P el = some ([u], ag, by_)) (hx : ev e x = .slice (some ⟨g, o, none⟩) l c) (hy : ev e y = .int k i)
    (hj : i = j) (h1 : j < l) : QO P W H e (.indexAddr t x y) ty (.pointer (some ⟨g, o + j, none⟩)) := by
  subst hj
  have := QO.idx1 (P := P) (W := W) (H := H) (ty := ty) hu he hx hy (by omega) (by omega); simpa using this
theorem QO.idx0 {k : IntKind} {i : Int} {j g l c : Nat} {el : TypeId} (hu : P.underlying t = some (.slice el)) (he : tyChk P el = some ([u], ag, by_)) (hx : ev e x = .slice (some ⟨g, 0, none⟩) l c) (hy : ev e y = .int k i)
    (hj : i = j) (h1 : j < l) : QO P W H e (.indexAddr t x y) ty (.pointer (some ⟨g, j, none⟩)) := by
  have := QO.idxn (P := P) (W := W) (H := H) (ty := ty) hu he hx hy hj h1; rwa [Nat.zero_add] at this
theorem QO.index1 {k : IntKind} {i : Int} {l : Nat} {el : TypeId} {cs : List Value} (hu : P.underlying t = some (.array l el)) (he : tyChk P el = some ([u], false, by_)) (hx : ev e x = .agg cs.toArray) (hy : ev e y = .int k i)
    (h0 : 0 ≤ i) (h1 : i < l) (hv : cs[i.toNat]? = some v) : QO P W H e (.index t x y) ty v := fun d pos af gd w _ => by
  simp [execOp, hx, hy, Instr.index, asIntOf, run_underlying hu, h0, h1, run_size he, part, run_ag he, hv]
theorem QO.lenS {a : Option Addr} {l c : Nat} {el : TypeId} (hu : P.underlying t = some (.slice el)) (hx : ev e x = .slice a l c) : QO P W H e (.call ⟨.builtin .len, #[x], #[t]⟩) ty (.int .i64 l) := fun d pos af gd w _ => by
  simp [execOp, resolve, invoke, builtin, Builtin.len_, hx, run_underlying hu, goInt]
theorem QO.max2 {k k' : IntKind} {i j : Int} {ats : Array TypeId} (hx : ev e x = .int k i) (hy : ev e y = .int k' j) : QO P W H e (.call ⟨.builtin .max, #[x, y], ats⟩) ty (.int k (max i j)) := fun d pos af gd w _ => by
  have : (if i < j then j else i) = max i j := by rw [Int.max_def]; split <;> split <;> omega
  simp [execOp, resolve, invoke, builtin, Builtin.max_, Builtin.max2, hx, hy, this]
theorem QO.min2 {k k' : IntKind} {i j : Int} {ats : Array TypeId} (hx : ev e x = .int k i) (hy : ev e y = .int k' j) : QO P W H e (.call ⟨.builtin .min, #[x, y], ats⟩) ty (.int k (min i j)) := fun d pos af gd w _ => by
  have : (if j < i then j else i) = min i j := by rw [Int.min_def]; split <;> split <;> omega
  simp [execOp, resolve, invoke, builtin, Builtin.min_, Builtin.min2, hx, hy, this]
theorem QO.makeFunc {fn : Fn} {first cap : Array Operand} : QO P W H e (.makeFunc fn first cap) ty (.func fn (first.toList.map (ev e)).toArray (cap.toList.map (ev e)).toArray) := fun d pos af gd w _ => by
  have h : ∀ a : Array Operand, Array.map (ev e) a = (List.map (ev e) a.toList).toArray := fun a => by apply Array.toList_inj.1; simp
  simp only [execOp, Instr.makeFunc, h, Sem.run_bind, Sem.run_pure, Result.andThen_ok]
theorem QO.extract {i : Nat} {vs : Array Value} (hx : ev e x = .tuple vs) (hv : vs[i]? = some v) : QO P W H e (.extract x i) ty v := fun d pos af gd w _ => by simp [execOp, hx, Instr.extract, hv]
theorem QO.arrPtr {a : Option Addr} {l c m : Nat} {el : TypeId} (hu : P.underlying t = some (.array m el)) (hx : ev e x = .slice a l c) (hm : m ≤ l) : QO P W H e (.sliceToArrayPointer t x) ty (.pointer a) := fun d pos af gd w _ => by
  simp [execOp, hx, Instr.arrayAt, run_underlying hu, Nat.not_lt.2 hm]
theorem QO.ext {f : FuncId} {xs : Array Operand} {ats : Array TypeId} {argl : List Value} (ha : xs.toList.map (ev e) = argl) (hc : ∀ w, (callFunc f argl.toArray).run P w = .ok (.value v) w) : QO P W H e (.call ⟨.value (.func f), xs, ats⟩) ty v := fun d pos af gd w _ => by
  have he : #[] ++ xs.map (ev e) ++ #[] = argl.toArray := by
    apply Array.toList_inj.1
    simp [← ha]
  simp only [execOp, resolve, ev, Deferred.ofValue, Sem.run_bind, Sem.run_pure, Result.andThen_ok, invoke, he, hc w]
theorem QO.cutHi {k : IntKind} {h : Int} {a : Option Addr} {l c : Nat} {el : TypeId} (hu : P.underlying t = some (.slice el)) (he : tyChk P el = some (z, ag, by_)) (hx : ev e x = .slice a l c) (hy : ev e y = .int k h) (h0 : 0 ≤ h) (h1 : h ≤ c) :
    QO P W H e (.slice t x none (some y) none) ty (.slice a h.toNat c) := fun d pos af gd w _ => by
  have e0 : (if c = 0 then a else Option.map (fun x => x.add 0) a) = a := by
    split
    · rfl
    · cases a <;> simp [Addr.add]
  simp [execOp, hx, hy, Instr.sliceAt, Instr.slice, run_underlying hu, Instr.sliceBounds, Instr.sliceBound, asIntOf, h0, h1, run_size he, e0]
/-- where a cut begins -/
def cutAt (g o i c s : Nat) : Option Addr := if c = i then some ⟨g, o, none⟩ else some ⟨g, o + i * s, none⟩
theorem cutAt_eq {g o i c s : Nat} (h : i < c) : cutAt g o i c s = some ⟨g, o + i * s, none⟩ := if_neg (by omega)
theorem QO.cutLo {k : IntKind} {i : Int} {g o l c : Nat} {el : TypeId} (hu : P.underlying t = some (.slice el)) (he : tyChk P el = some (z, ag, by_)) (hx : ev e x = .slice (some ⟨g, o, none⟩) l c) (hy : ev e y = .int k i) (h0 : 0 ≤ i) (h1 : i ≤ l) :
    QO P W H e (.slice t x (some y) none none) ty (.slice (cutAt g o i.toNat c z.length) (l - i.toNat) (c - i.toNat)) := fun d pos af gd w _ => by
  simp [execOp, hx, hy, Instr.sliceAt, Instr.slice, run_underlying hu, Instr.sliceBounds, Instr.sliceBound, asIntOf, h0, h1, run_size he, addr_add, cutAt]
theorem QO.cutLoHi {y' : Operand} {k k' : IntKind} {i h : Int} {g o l c : Nat} {el : TypeId} (hu : P.underlying t = some (.slice el)) (he : tyChk P el = some (z, ag, by_)) (hx : ev e x = .slice (some ⟨g, o, none⟩) l c) (hy : ev e y = .int k i) (hy' : ev e y' = .int k' h)
    (h0 : 0 ≤ i) (h1 : i ≤ h) (h2 : h ≤ c) : QO P W H e (.slice t x (some y) (some y') none) ty (.slice (cutAt g o i.toNat c z.length) (h.toNat - i.toNat) (c - i.toNat)) := fun d pos af gd w _ => by
  have h3 : 0 ≤ h := by omega
  have h4 : max h 0 = h := by rw [Int.max_def]; split <;> omega
  simp [execOp, hx, hy, hy', Instr.sliceAt, Instr.slice, run_underlying hu, Instr.sliceBounds, Instr.sliceBound, asIntOf, h0, h1, h2, h3, h4, run_size he, addr_add, cutAt]
end
section
variable {P : Program} {W : World} {n : Nat} {ops : Array Oper} {Q : Env → HL → Prop} {rest : List Oper} {e : Env} {H : HL}
variable {d : Tmp} {ty t t' tf : TypeId} {pos : String} {af : Array Edge} {x y : Operand} {u v : Value} {z : List Value} {ag : Bool} {by_ : Nat}
/-! struct and array literals -/
def fillL (pl : Nat → Option (Nat × Nat)) (cells : List Value) : List (Nat × Value) → Option (List Value)
  | [] => some cells
  | (i, v) :: rest => match pl i with
    | none => none
    | some (off, size) => if v.cells.size ≠ size ∨ cells.length < off + v.cells.size then none else fillL pl (cells.take off ++ v.cells.toList ++ cells.drop (off + v.cells.size)) rest
theorem foldl_set (off : Nat) : ∀ (vs : List Value) (cells : Array Value) (j : Nat), off + j + vs.length ≤ cells.size →
    ((vs.zipIdx j).foldl (fun cs (p : Value × Nat) => cs.setIfInBounds (off + p.2) p.1) cells).toList = cells.toList.take (off + j) ++ vs ++ cells.toList.drop (off + j + vs.length) := by
  intro vs
  induction vs with
  | nil => intro cells j _; simp
  | cons v vs ih =>
    intro cells j h
    simp only [List.length_cons] at h
    rw [List.zipIdx_cons, List.foldl_cons, ih _ _ (by simp; omega)]
    simp only [Array.toList_setIfInBounds]
    rw [show off + (j + 1) = (off + j) + 1 from by omega, List.take_succ_eq_append_getElem (by simp; omega), List.take_set_of_le (Nat.le_refl _), List.getElem_set_self, List.drop_set, if_pos (by omega)]
    simp
    congr 1
    omega
theorem fill_of {pl : Nat → Option (Nat × Nat)} : ∀ (ps : List (Nat × Value)) (cells cs : List Value), fillL pl cells ps = some cs → Instr.fill pl cells.toArray ps = some cs.toArray := by
  intro ps
  induction ps with
  | nil => intro cells cs h; simp only [fillL, Option.some.injEq] at h; subst h; rfl
  | cons p ps ih =>
    obtain ⟨i, v⟩ := p
    intro cells cs h
    simp only [fillL] at h
    simp only [Instr.fill]
    split at h
    · cases h
    · rename_i off size hp
      simp only [hp]
      split at h
      · cases h
      · rename_i hc
        simp only [not_or, Decidable.not_not, Nat.not_lt] at hc
        have h1 := ih _ _ h
        have h2 : (v.cells.zipIdx.foldl (fun cs (p : Value × Nat) => cs.setIfInBounds (off + p.2) p.1) cells.toArray) = (cells.take off ++ v.cells.toList ++ cells.drop (off + v.cells.size)).toArray := by
          apply Array.toList_inj.1
          rw [← Array.foldl_toList, Array.toList_zipIdx]
          have := foldl_set off v.cells.toList cells.toArray 0 (by simpa using hc.2)
          simpa using this
        rw [if_neg (by simp [hc.1]; omega)]
        rw [← h1]
        exact congrArg (fun a => Instr.fill pl a ps) h2
/-- the places of a struct's fields -/
def places (P : Program) (t : TypeId) : Option (Array (Nat × Nat)) :=
  match P.underlying t with
  | some (.struct fs) => fs.mapM fun f => (P.info? f.type).map fun i => (f.offset, i.size)
  | _ => none
theorem run_mapM_places {P : Program} {w : World} : ∀ (fs : List Field) (ps : List (Nat × Nat)), fs.mapM (fun f => (P.info? f.type).map fun i => (f.offset, i.size)) = some ps →
    (fs.mapM (fun f => do pure (f.offset, ← sizeOf f.type) : Field → Sem (Nat × Nat))).run P w = .ok ps w := by
  intro fs
  induction fs with
  | nil => intro ps h; simp at h; subst h; rfl
  | cons f fs ih =>
    intro ps h
    rw [List.mapM_cons] at h
    simp only [Option.bind_eq_bind, Option.bind_eq_some_iff, Option.map_eq_some_iff, Option.pure_def, Option.some.injEq] at h
    obtain ⟨p, ⟨i, hi, rfl⟩, ps', h2, rfl⟩ := h
    have hs : (sizeOf f.type).run P w = .ok i.size w := by simp [sizeOf, typeInfo, hi]
    rw [List.mapM_cons]
    simp only [Sem.run_bind, hs, Result.andThen_ok, Sem.run_pure, ih _ h2]
theorem QO.build {parts : Array (Nat × Operand)} {pl : Array (Nat × Nat)} {cs : List Value} (ht : tyChk P t = some (z, true, by_)) (hp : places P t = some pl) (hf : fillL (pl[·]?) z (parts.toList.map fun p => (p.1, ev e p.2)) = some cs) : QO P W H e (.build t parts) ty (.agg cs.toArray) := fun d pos af gd w _ => by
  obtain ⟨zv, hz1, hz2⟩ := run_zero (w := w) ht
  unfold places at hp
  split at hp
  · rename_i fs hu
    have hm := run_mapM_places (P := P) (w := w) fs.toList pl.toList (by
      rw [← Array.toList_mapM, hp]; rfl)
    have hm2 : (fs.mapM (fun f => do Pure.pure (f.offset, ← sizeOf f.type) : Field → Sem (Nat × Nat))).run P w = .ok pl w := by
      rw [Array.mapM_eq_mapM_toList]
      simp only [Sem.run_map, hm, Result.andThen_ok]
    have hf' := fill_of _ _ _ hf
    simp only [execOp, Instr.build, Sem.run_bind, hz1, Result.andThen_ok, run_underlying hu, hm2, hz2]
    have e1 : (Array.map (fun x => match x with | (i, x) => (i, ev e x)) parts).toList = parts.toList.map fun p => (p.1, ev e p.2) := by simp
    simp only [e1, hf', Result.andThen_ok, Sem.run_pure]
  · cases hp

theorem RS.make {k k' : IntKind} {l c : Int} {el : TypeId} (hd : Nat.blt d n = true) (hu : P.underlying t = some (.slice el)) (he : tyChk P el = some ([u], ag, by_)) (hx : ev e x = .int k l) (hy : ev e y = .int k' c)
    (h0 : 0 ≤ l) (h1 : l ≤ c) (h2 : (by_ : Int) * c ≤ 281474976710656) (h3 : c ≤ 9223372036854775807)
    (r : ∀ g, RS P W n ops Q rest (put e d (.slice (some ⟨g, 0, none⟩) l.toNat c.toNat)) (⟨g, el, List.replicate c.toNat u⟩ :: H)) : RS P W n ops Q (⟨some d, .makeSlice t x y, ty, pos, af, none⟩ :: rest) e H := by
  refine RS.step (d := some d) hd fun w ho => ?_
  obtain ⟨i, zv, ds, hi, hds, hz, hs, hc, ha, hb⟩ := (tyF he).ex
  have hm := run_make (P := P) w t el i zv hu hi hz k k' l c h0 h1 (by rw [hb]; exact h2) h3
  have ho2 := ho.alloc el (List.replicate c.toNat u)
  refine ⟨_, _, _, ?_, ho2, r _⟩
  have e1 : madeCells zv.cells (c.toNat * i.size) = (List.replicate c.toNat u).toArray := by
    rw [hs, hc]
    apply Array.toList_inj.1
    rw [show ([u].toArray) = #[u] from rfl, show c.toNat * [u].length = c.toNat from by simp, toList_madeCells_one]
  rw [e1] at hm
  simp [execOp, hx, hy, hm]
/-! calls -/
theorem args_eq {first cap : Array Value} {xs : Array Operand} {argl : List Value} (ha : first.toList ++ xs.toList.map (ev e) ++ cap.toList = argl) : first ++ xs.map (ev e) ++ cap = argl.toArray := by
  apply Array.toList_inj.1
  simp [← ha]
theorem RS.call {fo : Operand} {xs : Array Operand} {ats : Array TypeId} {f : FuncId} {first cap : Array Value} {argl : List Value} {R : Value → HL → Prop} (hd : Nat.blt d n = true) (hf : ev e fo = .func (.func f) first cap) (hok : callOK P f = true)
    (ha : first.toList ++ xs.toList.map (ev e) ++ cap.toList = argl) (hc : ∀ w, Own W w H → Fn_ P f argl.toArray w R) (k : ∀ v Hn, R v Hn → RS P W n ops Q rest (put e d v) (Hn ++ H)) :
    RS P W n ops Q (⟨some d, .call ⟨.value fo, xs, ats⟩, ty, pos, af, none⟩ :: rest) e H := by
  intro a w hr ho
  simp only [wpList, Region.wanted, if_true]
  left
  unfold Oper.wp
  have hrun : (execOp a.eval ⟨some d, .call ⟨.value fo, xs, ats⟩, ty, pos, af, none⟩).run P w = .ok (.enter f argl.toArray) w := by
    rw [hr.eval]
    simp only [execOp, resolve, hf, Deferred.ofValue, Sem.run_bind, Sem.run_pure, Result.andThen_ok, invoke, args_eq ha, run_callFunc hok]
  rw [hrun, Oper.upon_enter]
  refine Calls.mono (hc w ho) fun x w' hx => ?_
  obtain ⟨v, Hn, rfl, h2, h3⟩ := hx
  exact k v Hn h3 _ _ (hr.put (d := some d) hd v) (ho.call h2)
end
end Go.Proofs.Ytdfbeigjinhgiaa

namespace Go.Proofs.Ytdfbeigjinhgiaa
open Go Go.RowKit

def argsE (args : Array Value) : Env := fun t => args.getD t undef
theorem rep_start (n : Nat) (args : Array Value) (h : args.size ≤ n) : Rep n { tmps := args ++ Array.replicate (n - args.size) undef, defers := [] } (argsE args) := by
  refine ⟨rfl, by simp; omega, fun t => ?_⟩
  simp only [argsE, Array.getD_eq_getD_getElem?]
  by_cases ht : t < args.size
  · simp [Array.getElem?_append, ht]
  · simp only [Array.getElem?_append, ht, if_false]
    rw [Array.getElem?_replicate]
    have : args[t]? = none := Array.getElem?_eq_none (by omega)
    split <;> simp [this]

/-- What the results' variables hold. -/
inductive RVs (P : Program) (e : Env) (H : HL) : List ResultVar → List Value → Prop where
  | nil : RVs P e H [] []
  | tmp {t : Tmp} {v : Value} {l : List ResultVar} {vs : List Value} (hv : e t = v) (h : RVs P e H l vs) : RVs P e H (.tmp t :: l) (v :: vs)
  | cell1 {a : Tmp} {ty tb : TypeId} {v : Value} {g by_ : Nat} {z cs : List Value} {l : List ResultVar} {vs : List Value} (ht : tyChk P ty = some (z, false, by_)) (ha : e a = .pointer (some ⟨g, 0, none⟩)) (hm : (⟨g, tb, cs⟩ : B) ∈ H) (hv : cs[0]? = some v) (h : RVs P e H l vs) : RVs P e H (.cell a ty :: l) (v :: vs)
  | cellA {a : Tmp} {ty tb : TypeId} {g by_ : Nat} {z cs : List Value} {l : List ResultVar} {vs : List Value} (ht : tyChk P ty = some (z, true, by_)) (ha : e a = .pointer (some ⟨g, 0, none⟩)) (hm : (⟨g, tb, cs⟩ : B) ∈ H) (hv : cs.length = z.length) (h : RVs P e H l vs) : RVs P e H (.cell a ty :: l) (.agg cs.toArray :: vs)
def resOf (tmps : Array Value) : ResultVar → Sem Value
  | .tmp t => Pure.pure (tmps.getD t undef)
  | .cell a t => do loadVar t (← asAddr (tmps.getD a undef))
theorem RVs.run {P : Program} {W w : World} {n : Nat} {a : Act} {e : Env} {H : HL} (hr : Rep n a e) (ho : Own W w H) : ∀ {l : List ResultVar} {vs : List Value}, RVs P e H l vs →
    (l.mapM (resOf a.tmps)).run P w = .ok vs w := by
  intro l vs h
  induction h with
  | nil => rfl
  | @tmp t v l vs hv h ih =>
    have h1 : (resOf a.tmps (.tmp t)).run P w = .ok v w := by simp only [resOf, Sem.run_pure, hr.get, hv]
    rw [List.mapM_cons]
    simp only [Sem.run_bind, Sem.run_pure, Result.andThen_ok, ih, h1]
  | @cell1 x ty tb v g by_ z cs l vs ht ha hm hv h ih =>
    have hc : w.cell? ⟨g, 0, none⟩ = some v := by rw [(ho.blk _ hm).2.cell]; exact hv
    have hl : (loadVar ty ⟨g, 0, none⟩).run P w = .ok v w := by simp [loadVar, run_ag ht, run_load, hc]
    have h1 : (resOf a.tmps (.cell x ty)).run P w = .ok v w := by simp only [resOf, Sem.run_bind, Sem.run_pure, hr.get, ha, asAddr, Result.andThen_ok, hl]
    rw [List.mapM_cons]
    simp only [Sem.run_bind, Sem.run_pure, Result.andThen_ok, ih, h1]
  | @cellA x ty tb g by_ z cs l vs ht ha hm hv h ih =>
    have hc : ∀ j v, cs[j]? = some v → w.cell? ((⟨g, 0, none⟩ : Addr).add j) = some v := by
      intro j v hj
      rw [addr_add, Nat.zero_add, (ho.blk _ hm).2.cell]; exact hj
    have hl2 := run_loadCells_list (P := P) (w := w) ⟨g, 0, none⟩ cs hc
    rw [hv] at hl2
    have hl : (loadVar ty ⟨g, 0, none⟩).run P w = .ok (.agg cs.toArray) w := by simp [loadVar, run_ag ht, run_size ht, hl2]
    have h1 : (resOf a.tmps (.cell x ty)).run P w = .ok (.agg cs.toArray) w := by simp only [resOf, Sem.run_bind, Sem.run_pure, hr.get, ha, asAddr, Result.andThen_ok, hl]
    rw [List.mapM_cons]
    simp only [Sem.run_bind, Sem.run_pure, Result.andThen_ok, ih, h1]
/-- the results as one value -/
def one : List Value → Value
  | [v] => v
  | vs => .tuple vs.toArray
def retQ (P : Program) (rs : Array ResultVar) (R : Value → HL → Prop) : Exit → Env → HL → Prop := fun x e H => (x = .normal ∨ x = .ret) ∧ ∃ vs H', RVs P e H rs.toList vs ∧ H'.Sublist H ∧ R (one vs) H'
theorem Fn_.intro {P : Program} {W : World} {f : FuncId} {fn : Func} {c : Code} {n : Nat} {args : Array Value} {R : Value → HL → Prop} (hf : P.funcs[f]? = some fn) (hb : fn.body = some c) (hn : fn.ntmps = n) (hargs : Nat.ble args.size n = true)
    (h : CS P W n c (retQ P fn.results R) (argsE args) []) : Fn_ P f args W R := by
  subst hn
  refine calls_of_wp hf hb (wp_mono (h _ _ (rep_start _ _ (Nat.le_of_ble_eq_true hargs)) (Own.start W)) fun x a w hq => ?_)
  obtain ⟨e, H, hr, ho, hx, vs, H', hv, hs, hR⟩ := hq
  have hv' := hv.run hr ho
  have key : a.defers = [] ∧ ∃ v, (results fn a.tmps).run P w = .ok v w ∧ FnPost W R (.returned v) w := by
    refine ⟨hr.defers, one vs, ?_, one vs, H', rfl, ho.sub hs, hR⟩
    have hres : results fn a.tmps = (do
        let vs ← fn.results.mapM (resOf a.tmps)
        Pure.pure (if h : vs.size = 1 then vs[0] else .tuple vs)) := by
      unfold results
      congr 1
    rw [hres, Array.mapM_eq_mapM_toList]
    simp only [Sem.run_bind, Sem.run_map, hv', Result.andThen_ok, Sem.run_pure]
    congr 1
    match vs with
    | [] => rfl
    | [v] => rfl
    | v :: u :: l => simp [one]
  rcases hx with rfl | rfl <;> exact key

section
variable {P : Program} {W : World} {n : Nat} {e : Env} {H H' : HL} {rs : Array ResultVar} {R : Value → HL → Prop}
theorem retQ.mk {x : Exit} {vs : List Value} (hx : x = .normal ∨ x = .ret) (h : RVs P e H rs.toList vs) (hs : H'.Sublist H) (hR : R (one vs) H') : retQ P rs R x e H := ⟨hx, vs, H', h, hs, hR⟩
end

/-! ### floats of 32 bits -/
def nan32 (b : Nat) : Bool := decide (0x7f800000 < b % 0x80000000)
def cl (b : Nat) : Nat := if nan32 b then 0x7fc00000 else b
/-- What an operation may give: its value; or, where it has none, some NaN. -/
def FR (o : Option Nat) (r : Nat) : Prop :=
  match o with
  | some s => r = s
  | none => nan32 r = true
def fop (op : BinOp) (x y : Nat) : Option Nat :=
  match op with
  | .add => Ieee.single.add x y
  | .sub => Ieee.single.sub x y
  | .mul => Ieee.single.mul x y
  | .quo => Ieee.single.div x y
  | _ => none
section
variable {P : Program} {W : World} {n : Nat} {ops : Array Oper} {Q : Env → HL → Prop} {rest : List Oper} {e : Env} {H : HL}
variable {d : Tmp} {ty t t' : TypeId} {pos : String} {af : Array Edge} {x y : Operand} {u v : Value} {z : List Value} {ag : Bool} {by_ : Nat}
/-- comparisons -/
def fcmpB (op : BinOp) (i j : Nat) : Bool :=
  match op with
  | .eql => Ieee.single.order i j == some .eq
  | .neq => Ieee.single.order i j != some .eq
  | .lss => Ieee.single.order i j == some .lt
  | .leq => Ieee.single.order i j == some .lt || Ieee.single.order i j == some .eq
  | .gtr => Ieee.single.order i j == some .gt
  | .geq => Ieee.single.order i j == some .gt || Ieee.single.order i j == some .eq
  | _ => false
theorem QO.fcmp32 {op : BinOp} {i j : Nat} (hx : ev e x = .float .f32 i) (hy : ev e y = .float .f32 j)
    (hop : op = .eql ∨ op = .neq ∨ op = .lss ∨ op = .leq ∨ op = .gtr ∨ op = .geq) :
    QO P W H e (.binOp op t x y t') ty (.bool (fcmpB op i j)) :=
  QO.fcmp hx hy (fun w => by rcases hop with rfl | rfl | rfl | rfl | rfl | rfl <;> rfl) hop

/-! ### append onto a row of the call's own -/
/-- the source reads so in the world -/
def Src (W : World) (H : HL) (a : Addr) (news : List Value) : Prop :=
  (∀ j u, news[j]? = some u → W.cell? (a.add j) = some u) ∨ ∃ (g o : Nat) (tb : TypeId) (cs : List Value), a = ⟨g, o, none⟩ ∧ (⟨g, tb, cs⟩ : B) ∈ H ∧ ∀ j u, news[j]? = some u → cs[o + j]? = some u
theorem Src.at_ {W w : World} {H : HL} {a : Addr} {news : List Value} (h : Src W H a news) (ho : Own W w H) : ∀ j u, news[j]? = some u → w.cell? (a.add j) = some u := by
  intro j u hj
  rcases h with h | ⟨g, o, tb, cs, rfl, hm, h⟩
  · exact ho.old (h j u hj)
  · rw [addr_add, (ho.blk _ hm).2.cell]; exact h j u hj
theorem RS.append {g cap : Nat} {el : TypeId} {m l c : Nat} {a : Addr} {xs junk news : List Value} {H' : HL} (hd : Nat.blt d n = true) (hu : P.underlying t = some (.slice el)) (he : tyChk P el = some (z, ag, by_))
    (hx : ev e x = .slice (some ⟨g, 0, none⟩) l cap) (hrem : Rem ⟨g, el, xs ++ junk⟩ H H') (hlen : xs.length = l * z.length) (hcap : xs.length + junk.length = cap * z.length) (hlc : l ≤ cap) (hmx : cap ≤ maxLen)
    (hy : ev e y = .slice (some a) m c) (hsrc : Src W H a news) (hnl : news.length = m * z.length) (h1 : ∀ u ∈ news, u.oneCell' = true) (hz : 0 < z.length) (h63 : l + m ≤ maxLen) (hby : (l + m) * by_ ≤ 140737488355328)
    (k : ∀ g' cap' junk', xs.length + news.length + junk'.length = cap' * z.length → l + m ≤ cap' → cap' ≤ maxLen → RS P W n ops Q rest (put e d (.slice (some ⟨g', 0, none⟩) (l + m) cap')) (⟨g', el, (xs ++ news) ++ junk'⟩ :: H')) :
    RS P W n ops Q (⟨some d, .call ⟨.builtin .append, #[x, y], #[t, t]⟩, ty, pos, af, none⟩ :: rest) e H := by
  refine RS.step (d := some d) hd fun w ho => ?_
  obtain ⟨i, zv, ds, hi, hds, hzz, hs, hc, ha, hb⟩ := (tyF he).ex
  have hp := ho.perm hrem.perm
  obtain ⟨hg1, hg2⟩ := hp.blk _ (List.mem_cons_self ..)
  have hown : w.ownsRow W.heap.size el z.length (.slice (some ⟨g, 0, none⟩) l cap) l xs := by
    refine ⟨hlen, .inr ⟨g, cap, (xs ++ junk).toArray, rfl, hg1, hg2, hlc, hmx, by simp [hcap], ?_⟩⟩
    simp [← hlen]
  obtain ⟨v', w', r1, r2, r3, r4, r5⟩ := run_append_own_at (P := P) w W.heap.size t ty el i zv z.length by_ hu hi hzz hs hb (by rw [hc]; simp) hz (.slice (some ⟨g, 0, none⟩) l cap) l xs hown a m c news hnl
    (hsrc.at_ ho) h1 h63 hby ho.below.size
  have hne : ¬ (v' = .slice none 0 0) := fun hv => by have := (r4.1 hv).1; cases this
  obtain ⟨q1, q2⟩ := r2
  rcases q2 with ⟨q2, _⟩ | ⟨g', cap', cur, rfl, q3, q4, q5, q6, q7, q8⟩
  · exact (hne q2).elim
  have hcur : cur.toList = (xs ++ news) ++ cur.toList.drop ((l + m) * z.length) := by rw [← q8]; simp
  have hdis : ∀ b ∈ H', b.g ≠ g' := by
    intro b hb hbg
    rcases r5 with r5 | r5 <;> simp only [Value.ownBlock, Option.some.injEq] at r5
    · have := (List.pairwise_cons.1 hp.ne).1 b hb
      exact this (by show g = b.g; omega)
    · have := (ho.perm hrem.perm).blk b (List.mem_cons_of_mem _ hb)
      have := this.2.lt
      omega
  refine ⟨.slice (some ⟨g', 0, none⟩) (l + m) cap', w', ⟨g', el, (xs ++ news) ++ cur.toList.drop ((l + m) * z.length)⟩ :: H', ?_, ⟨?_, fun b hb => ?_, ?_⟩, k g' cap' _ ?_ q5 q6⟩
  · simp only [execOp, resolve, invoke, builtin, Sem.run_bind, Sem.run_pure, Result.andThen_ok, List.map_toArray, List.map_cons, List.map_nil, hx, hy, r1]
  · exact ho.below.grown r3 ho.below.size (fun k hk => by simp only [Value.ownBlock, Option.some.injEq] at hk; subst hk; exact hg1)
  · rcases List.mem_cons.1 hb with rfl | hb
    · refine ⟨q3, ?_⟩
      unfold Blk
      rw [q4, ← hcur]; simp
    · have h2 := hp.blk b (List.mem_cons_of_mem _ hb)
      refine ⟨h2.1, (r3.block b.g h2.2.lt ?_).trans h2.2⟩
      intro hbg
      simp only [Value.ownBlock, Option.some.injEq] at hbg
      exact (List.pairwise_cons.1 hp.ne).1 b hb hbg.symm
  · exact List.pairwise_cons.2 ⟨fun b hb => (hdis b hb).symm, (List.pairwise_cons.1 hp.ne).2⟩
  · have := congrArg List.length hcur
    simp only [List.length_append, Array.length_toList] at this
    omega
theorem RS.appendNil {el : TypeId} {m c : Nat} {a : Addr} {news : List Value} (hd : Nat.blt d n = true) (hu : P.underlying t = some (.slice el)) (he : tyChk P el = some (z, ag, by_))
    (hx : ev e x = .slice none 0 0) (hy : ev e y = .slice (some a) m c) (hm : 0 < m) (hsrc : Src W H a news) (hnl : news.length = m * z.length) (h1 : ∀ u ∈ news, u.oneCell' = true) (hz : 0 < z.length) (h63 : m ≤ maxLen) (hby : m * by_ ≤ 140737488355328)
    (k : ∀ g' cap' junk', news.length + junk'.length = cap' * z.length → m ≤ cap' → cap' ≤ maxLen → RS P W n ops Q rest (put e d (.slice (some ⟨g', 0, none⟩) m cap')) (⟨g', el, news ++ junk'⟩ :: H)) :
    RS P W n ops Q (⟨some d, .call ⟨.builtin .append, #[x, y], #[t, t]⟩, ty, pos, af, none⟩ :: rest) e H := by
  refine RS.step (d := some d) hd fun w ho => ?_
  obtain ⟨i, zv, ds, hi, hds, hzz, hs, hc, ha, hb⟩ := (tyF he).ex
  obtain ⟨v', w', r1, r2, r3, r4, r5⟩ := run_append_own_at (P := P) w W.heap.size t ty el i zv z.length by_ hu hi hzz hs hb (by rw [hc]; simp) hz (.slice none 0 0) 0 [] (World.ownsRow_nil w _ el _) a m c news hnl
    (hsrc.at_ ho) h1 (by simpa using h63) (by simpa using hby) ho.below.size
  have hne : ¬ (v' = .slice none 0 0) := fun hv => by have := (r4.1 hv).2; omega
  obtain ⟨q1, q2⟩ := r2
  rcases q2 with ⟨q2, _⟩ | ⟨g', cap', cur, rfl, q3, q4, q5, q6, q7, q8⟩
  · exact (hne q2).elim
  simp only [Nat.zero_add, List.nil_append] at q5 q8 q1 r1
  have hcur : cur.toList = news ++ cur.toList.drop (m * z.length) := by conv => lhs; rw [← List.take_append_drop (m * z.length) cur.toList, q8]
  have hnew : g' = w.heap.size := by
    rcases r5 with r5 | r5 <;> simp only [Value.ownBlock] at r5
    · cases r5
    · simpa using r5
  refine ⟨.slice (some ⟨g', 0, none⟩) m cap', w', ⟨g', el, news ++ cur.toList.drop (m * z.length)⟩ :: H, ?_, ⟨?_, fun b hb => ?_, ?_⟩, k g' cap' _ ?_ q5 q6⟩
  · simp only [execOp, resolve, invoke, builtin, Sem.run_bind, Sem.run_pure, Result.andThen_ok, List.map_toArray, List.map_cons, List.map_nil, hx, hy, r1]
  · exact ho.below.grown r3 ho.below.size (fun k hk => by simp [Value.ownBlock] at hk)
  · rcases List.mem_cons.1 hb with rfl | hb
    · refine ⟨q3, ?_⟩
      unfold Blk
      rw [q4, ← hcur]; simp
    · have h2 := ho.blk b hb
      exact ⟨h2.1, (r3.block b.g h2.2.lt (by simp [Value.ownBlock])).trans h2.2⟩
  · refine List.pairwise_cons.2 ⟨fun b hb => ?_, ho.ne⟩
    have := (ho.blk b hb).2.lt
    show g' ≠ b.g
    omega
  · have := congrArg List.length hcur
    simp only [List.length_append, Array.length_toList] at this
    omega
/-- a slice literal -/
theorem RS.buildSlice {el : TypeId} {len : Nat} {parts : Array (Nat × Operand)} {zs cs : List Value} (hd : Nat.blt d n = true) (hu : P.underlying t = some (.slice el)) (he : tyChk P el = some (z, ag, by_)) (hl : len * z.length ≤ 16777216) (hp : 0 < len * z.length)
    (hz : (List.range (len * z.length)).map (fun i => z[i % z.length]?.getD default) = zs) (hf : fillL (fun i => some (i * z.length, z.length)) zs (parts.toList.map fun p => (p.1, ev e p.2)) = some cs)
    (k : ∀ g, RS P W n ops Q rest (put e d (.slice (some ⟨g, 0, none⟩) len len)) (⟨g, el, cs⟩ :: H)) : RS P W n ops Q (⟨some d, .buildSlice t len parts, ty, pos, af, none⟩ :: rest) e H := by
  refine RS.step (d := some d) hd fun w ho => ?_
  obtain ⟨zv, h1, h2⟩ := run_zero (w := w) he
  refine ⟨_, _, _, ?_, ho.alloc el cs, k _⟩
  have hf' := fill_of _ _ _ hf
  have e1 : (Array.map (fun x => match x with | (i, x) => (i, ev e x)) parts).toList = parts.toList.map fun p => (p.1, ev e p.2) := by simp
  have e2 : (Array.range (len * z.length)).map (fun i => zv.cells[i % zv.cells.size]!) = zs.toArray := by
    apply Array.toList_inj.1
    rw [← hz, h2]
    simp
  have n1 : ¬ (len * z.length > 2 ^ 24) := by omega
  have n2 : ¬ (len * z.length = 0) := by omega
  simp only [execOp, Instr.buildSlice, Sem.run_bind, run_underlying hu, Result.andThen_ok, run_size he, n1, if_false, n2, h1, Sem.run_pure, e1, e2, hf', newRow, run_newObj]
  rfl
end
end Go.Proofs.Ytdfbeigjinhgiaa

namespace Go.Proofs.Ytdfbeigjinhgiaa
open Go Go.RowKit

/-- Whatever order is picked from here on; behind each operation below k the world meets S. -/
def wpAnyT (P : Program) (ops : Array Oper) (Q : Exit → Act → World → Prop) (S : World → Prop) (k : Nat) : Nat → Array Bool → Act → World → Prop
  | 0, listed, a, w => Region.ready .any ops listed = [] ∧ Q .normal a w
  | fuel + 1, listed, a, w =>
    (Region.ready .any ops listed = [] → Q .normal a w) ∧
    ∀ i ∈ Region.ready .any ops listed, wpOp P ops Q i (fun a' w' => (i < k → S w') ∧ wpAnyT P ops Q S k fuel (listed.setIfInBounds i true) a' w') a w
section
variable {P : Program} {ops : Array Oper} {Q : Exit → Act → World → Prop} {S S' : World → Prop} {k : Nat}
theorem wpAny_of_T : ∀ (fuel : Nat) (listed : Array Bool) (a : Act) (w : World), wpAnyT P ops Q S k fuel listed a w → wpAny P .any ops Q fuel listed a w
  | 0, _, _, _, h => h
  | fuel + 1, _, _, _, h => ⟨h.1, fun i hi => wpOp_mono (fun _ _ h' => wpAny_of_T fuel _ _ _ h'.2) (h.2 i hi)⟩
/-- Each operation from k on waits for each one below k. -/
def tailW (ops : Array Oper) (k : Nat) : Bool :=
  (List.range ops.size).all fun j => Nat.blt j k || match ops[j]? with
    | some o => (List.range k).all fun i => o.after.any fun e => Region.binds .any e && e.on == i
    | none => true
theorem tailW_spec (h : tailW ops k = true) {i j : Nat} {o : Oper} (hj : ops[j]? = some o) (hk : k ≤ j) (hi : i < k) : ∃ e ∈ o.after, Region.binds .any e = true ∧ e.on = i := by
  unfold tailW at h
  have hlt : j < ops.size := (Array.getElem?_eq_some_iff.1 hj).1
  have h1 := List.all_eq_true.1 h j (List.mem_range.2 hlt)
  have h2 : Nat.blt j k = false := by
    cases hb : Nat.blt j k with
    | false => rfl
    | true => have : j < k := by simpa using hb
              omega
  simp only [h2, Bool.false_or, hj] at h1
  have h3 := List.all_eq_true.1 h1 i (List.mem_range.2 hi)
  obtain ⟨e, he, hb⟩ := Array.any_eq_true'.1 h3
  simp only [Bool.and_eq_true, beq_iff_eq] at hb
  exact ⟨e, he, hb.1, hb.2⟩
/-- What only reads may be taken first. -/
theorem wpAnyT_first {i : Nat} {oi : Oper} {v : Value} (htw : tailW ops k = true) (hik : i < k) (hi : ops[i]? = some oi) (hsel : ∀ (j : Nat) (o : Oper) cs b, ops[j]? = some o → o.op ≠ .select cs b)
    (hQ : ∀ c a w, Q (.panic c) (a.put oi.dst v) w → Q (.panic c) a w) :
    ∀ (fuel : Nat) (listed : Array Bool) (a : Act) (w : World),
      (∀ j oj, ops[j]? = some oj → j ≠ i → listed.getD j true = false → (∀ e ∈ oj.after, Region.binds .any e = true → e.on ≠ i) → oi.apart ops oj = true) →
      i ∈ Region.ready .any ops listed → YieldsIf P ops S oi v a → S w →
      wpAnyT P ops Q S k fuel (listed.setIfInBounds i true) (a.put oi.dst v) w → wpAnyT P ops Q S k (fuel + 1) listed a w := by
  intro fuel
  induction fuel with
  | zero =>
    intro listed a w _ hr hy hS H
    refine ⟨fun h => (by rw [h] at hr; cases hr), fun j hj => ?_⟩
    by_cases hji : j = i
    · subst hji; exact hy.wpOp hi hS ⟨fun _ => hS, H⟩
    · have := ready_mono hj hji
      rw [H.1] at this
      cases this
  | succ fuel ih =>
    intro listed a w hfree hr hy hS H
    refine ⟨fun h => (by rw [h] at hr; cases hr), fun j hj => ?_⟩
    by_cases hji : j = i
    · subst hji; exact hy.wpOp hi hS ⟨fun _ => hS, H⟩
    · have h1 := H.2 j (ready_mono hj hji)
      obtain ⟨hjun, oj, hoj, hall⟩ := mem_ready.1 hj
      have hnot : ∀ e ∈ oj.after, Region.binds .any e = true → e.on ≠ i := fun e he hb heq => by
        have h1 := hall e he hb
        have h0 := (mem_ready.1 hr).1
        rw [heq] at h1
        rcases Nat.lt_or_ge i listed.size with h' | h'
        · simp [h'] at h0 h1; rw [h0] at h1; cases h1
        · simp [Array.getElem?_eq_none h'] at h1
      have hjk : j < k := by
        rcases Nat.lt_or_ge j k with h' | h'
        · exact h'
        · obtain ⟨e, he, hb, ho⟩ := tailW_spec htw hoj h' hik
          exact absurd ho (hnot e he hb)
      have h2 := wpOp_putIf hoj (hfree j oj hoj hji hjun hnot) (fun cs b => hsel i oi cs b hi) (fun cs b => hsel j oj cs b hoj) hQ hy h1
      have hfree' : ∀ q ok, ops[q]? = some ok → q ≠ i → (listed.setIfInBounds j true).getD q true = false →
          (∀ e ∈ ok.after, Region.binds .any e = true → e.on ≠ i) → oi.apart ops ok = true := fun q ok hq hqi hun hno => by
        refine hfree q ok hq hqi ?_ hno
        by_cases hjq : j = q
        · subst hjq; exact hjun
        · rw [getD_set_ne true hjq] at hun; exact hun
      refine wpOp_mono (fun a' w' h3 => ⟨h3.2.1, ih (listed.setIfInBounds j true) a' w' hfree' (ready_mono hr (Ne.symm hji)) h3.1 (h3.2.1 hjk) ?_⟩) h2
      rw [Array.setIfInBounds_comm _ _ hji]
      exact h3.2.2
end

/-! ### in the calculus -/
/-- The region's operations that have not come up, in whatever order: 'HS': the blocks that stay as they are till the tail. -/
def RT (P : Program) (W : World) (n : Nat) (ops : Array Oper) (k : Nat) (HS : HL) (Q : Env → HL → Prop) (fuel : Nat) (listed : Array Bool) (e : Env) (H : HL) : Prop :=
  tailW ops k = true → Region.noSelect ops = true → HS.Sublist H → ∀ a w, Rep n a e → Own W w H → wpAnyT P ops (PostN W n Q) (fun w => Own W w HS) k fuel listed a w
section
variable {P : Program} {W : World} {n : Nat} {ops : Array Oper} {k : Nat} {HS H : HL} {Q : Env → HL → Prop} {fuel : Nat} {listed : Array Bool} {e : Env}
variable {d : Tmp} {op : Op} {ty : TypeId} {pos : String} {af : Array Edge} {v : Value} {i j : Nat}
theorem hQpanic {dst : Option Tmp} {v : Value} : ∀ c a w, PostN W n Q (.panic c) (a.put dst v) w → PostN W n Q (.panic c) a w := fun _ _ _ h => h
theorem RT.done (hr : Region.ready .any ops listed = []) (h : Q e H) : RT P W n ops k HS Q fuel listed e H := by
  intro _ _ _ a w hrep ho
  have hp : PostN W n Q .normal a w := ⟨e, H, hrep, ho, h⟩
  cases fuel with
  | zero => exact ⟨hr, hp⟩
  | succ f => exact ⟨fun _ => hp, by rw [hr]; simp⟩
/-- may be taken now, and first -/
def takeOK (ops : Array Oper) (k : Nat) (listed : Array Bool) (i : Nat) : Bool := Nat.blt i k && Region.free .any ops listed i && (Region.ready .any ops listed).contains i
theorem RT.take (hi : ops[i]? = some ⟨some d, op, ty, pos, af, none⟩) (hc : takeOK ops k listed i = true) (hd : Nat.blt d n = true) (hq : QO P W HS e op ty v)
    (h : RT P W n ops k HS Q fuel (listed.setIfInBounds i true) (put e d v) H) : RT P W n ops k HS Q (fuel + 1) listed e H := by
  intro ht hs hsub a w hrep ho
  simp only [takeOK, Bool.and_eq_true] at hc
  obtain ⟨⟨hk, hf⟩, hr⟩ := hc
  refine wpAnyT_first (v := v) ht (by simpa using hk) hi (Region.noSelect_spec hs) hQpanic fuel listed a w (Region.free_spec hi hf) (by simpa using hr) ?_ (ho.sub hsub) (h ht hs hsub _ _ (hrep.put (d := some d) hd v) ho)
  refine .inl ⟨rfl, fun w' hw' => ?_⟩
  rw [hrep.eval]
  exact hq _ _ _ _ w' hw'
theorem RT.takev {v' : Value} (hi : ops[i]? = some ⟨some d, op, ty, pos, af, none⟩) (hc : takeOK ops k listed i = true) (hd : Nat.blt d n = true) (hq : QO P W HS e op ty v) (hv : v = v')
    (h : RT P W n ops k HS Q fuel (listed.setIfInBounds i true) (put e d v') H) : RT P W n ops k HS Q (fuel + 1) listed e H := by subst hv; exact RT.take hi hc hd hq h
/-- a guarded operation that runs -/
theorem RT.takeOn {b : Bool} {dj : Tmp} (hi : ops[i]? = some ⟨some d, op, ty, pos, af, some (j, b)⟩) (hj : (ops[j]?).bind (·.dst) = some dj) (hv : e dj = .bool b) (hc : takeOK ops k listed i = true) (hd : Nat.blt d n = true) (hq : QO P W HS e op ty v)
    (h : RT P W n ops k HS Q fuel (listed.setIfInBounds i true) (put e d v) H) : RT P W n ops k HS Q (fuel + 1) listed e H := by
  intro ht hs hsub a w hrep ho
  simp only [takeOK, Bool.and_eq_true] at hc
  obtain ⟨⟨hk, hf⟩, hr⟩ := hc
  refine wpAnyT_first (v := v) ht (by simpa using hk) hi (Region.noSelect_spec hs) hQpanic fuel listed a w (Region.free_spec hi hf) (by simpa using hr) ?_ (ho.sub hsub) (h ht hs hsub _ _ (hrep.put (d := some d) hd v) ho)
  refine .inl ⟨?_, fun w' hw' => ?_⟩
  · have hg := hrep.get dj
    rw [hv] at hg
    have hs : dj < a.tmps.size := by
      rcases Nat.lt_or_ge dj a.tmps.size with h' | h'
      · exact h'
      · simp [Array.getD, Nat.not_lt.2 h', undef] at hg
    simp [Array.getD, hs] at hg
    simp [Region.wanted, yielded, hj, hs, hg]
  · rw [hrep.eval]
    exact hq _ _ _ _ w' hw'
theorem RT.split {dj : Tmp} {b : Bool} (_ : e dj = .bool b) (ht : b = true → RT P W n ops k HS Q fuel listed e H) (hf : b = false → RT P W n ops k HS Q fuel listed e H) : RT P W n ops k HS Q fuel listed e H := by
  cases b
  · exact hf rfl
  · exact ht rfl
/-- what one operation comes to, by the lemmas for a list of one -/
theorem wpOp_of_RS {o : Oper} {X : Env → HL → Prop} (hi : ops[i]? = some o) (h : RS P W n ops X [o] e H) {a : Act} {w : World} (hrep : Rep n a e) (ho : Own W w H) :
    wpOp P ops (PostN W n Q) i (fun a' w' => ∃ e' H', Rep n a' e' ∧ Own W w' H' ∧ X e' H') a w := by
  have h1 := h a w hrep ho
  unfold wpOp
  simp only [hi]
  simp only [wpList] at h1
  have post : ∀ (x : Exit) a' w', PostN W n X x a' w' → x ≠ .normal → False := by
    intro x a' w' hp hx
    cases x <;> simp only [PostN] at hp
    exact hx rfl
  split
  · rename_i hw
    simp only [hw, if_true] at h1
    rcases h1 with h1 | ⟨_, a0, w0, h1⟩
    · left
      unfold Oper.wp at *
      generalize (execOp a.eval o).run P w = r at *
      cases r with
      | ok nx w' =>
        cases nx <;> simp only [Oper.upon] at h1 ⊢
        case value u => exact h1
        case skip => exact h1
        case defer d => exact h1
        case enter f args =>
          refine Calls.mono h1 fun x w'' hx => ?_
          cases x with
          | returned u => exact hx
          | panicked c => exact (post _ _ _ hx (by simp)).elim
          | outgrown => obtain ⟨a1, w1, hx⟩ := hx; exact (post _ _ _ hx (by simp)).elim
        case row row args => exact h1
      | halt x w' => cases x <;> simp only [Oper.upon] at h1 ⊢ <;> exact (post _ _ _ h1 (by simp)).elim
    · exact (post _ _ _ h1 (by simp)).elim
  · rename_i hw
    simp only [hw] at h1
    exact h1
/-- the only one that may come up -/
theorem RT.one {o : Oper} (hr : Region.ready .any ops listed = [i]) (hk : Nat.blt i k = true) (hi : ops[i]? = some o)
    (h : RS P W n ops (fun e' H' => HS.Sublist H' ∧ RT P W n ops k HS Q fuel (listed.setIfInBounds i true) e' H') [o] e H) :
    RT P W n ops k HS Q (fuel + 1) listed e H := by
  intro ht hs hsub a w hrep ho
  refine ⟨fun h0 => (by rw [hr] at h0; cases h0), fun q hq => ?_⟩
  rw [hr] at hq
  obtain rfl : q = i := by simpa using hq
  exact wpOp_mono (fun a' w' ⟨e', H', h1, h2, h3, h4⟩ => ⟨fun hk => h2.sub h3, h4 ht hs h3 a' w' h1 h2⟩) (wpOp_of_RS hi h hrep ho)
theorem wpAnyT_free {S S' : World → Prop} {Q : Exit → Act → World → Prop} : ∀ (fuel : Nat) (listed : Array Bool) (a : Act) (w : World), (∀ i, i < k → listed.getD i false = true) → wpAnyT P ops Q S k fuel listed a w → wpAnyT P ops Q S' k fuel listed a w
  | 0, _, _, _, _, h => h
  | fuel + 1, listed, _, _, hall, h => ⟨h.1, fun i hi => wpOp_mono (fun _ _ h' => ⟨fun hk => by
      have h1 := (mem_ready.1 hi).1
      have h2 := hall i hk
      rcases Nat.lt_or_ge i listed.size with hl | hl
      · simp [hl] at h1 h2
        rw [h2] at h1
        cases h1
      · simp [Array.getElem?_eq_none hl] at h2, wpAnyT_free fuel _ _ _ (fun j hj => getD_set_true (hall j hj)) h'.2⟩) (h.2 i hi)⟩
/-- one of the tail -/
theorem RT.tail {o : Oper} (hr : Region.ready .any ops listed = [i]) (hk : Nat.blt i k = false) (hi : ops[i]? = some o)
    (h : RS P W n ops (fun e' H' => RT P W n ops k [] Q fuel (listed.setIfInBounds i true) e' H') [o] e H) :
    RT P W n ops k HS Q (fuel + 1) listed e H := by
  intro ht hs hsub a w hrep ho
  have hk' : ¬ i < k := by
    intro h
    have h2 : Nat.blt i k = true := by rw [Nat.blt_eq]; exact h
    rw [h2] at hk
    cases hk
  have hir : i ∈ Region.ready .any ops listed := by rw [hr]; simp
  have hall : ∀ j, j < k → listed.getD j false = true := fun j hj => by
    obtain ⟨_, o', ho', hall⟩ := mem_ready.1 hir
    obtain ⟨e', he, hb, hon⟩ := tailW_spec ht ho' (by omega : k ≤ i) hj
    rw [← hon]
    exact hall e' he hb
  refine ⟨fun h0 => (by rw [hr] at h0; cases h0), fun q hq => ?_⟩
  rw [hr] at hq
  obtain rfl : q = i := by simpa using hq
  exact wpOp_mono (fun a' w' ⟨e', H', h1, h2, h4⟩ => ⟨fun h => absurd h hk', wpAnyT_free fuel _ _ _ (fun j hj => getD_set_true (hall j hj)) (h4 ht hs (List.nil_sublist _) a' w' h1 h2)⟩) (wpOp_of_RS hi h hrep ho)
/-- two that may come up -/
theorem RT.two {o o' : Oper} (hr : Region.ready .any ops listed = [i, j]) (hi : ops[i]? = some o) (hj : ops[j]? = some o')
    (h : RS P W n ops (fun e' H' => HS.Sublist H' ∧ RT P W n ops k HS Q fuel (listed.setIfInBounds i true) e' H') [o] e H)
    (h' : RS P W n ops (fun e' H' => HS.Sublist H' ∧ RT P W n ops k HS Q fuel (listed.setIfInBounds j true) e' H') [o'] e H) :
    RT P W n ops k HS Q (fuel + 1) listed e H := by
  intro ht hs hsub a w hrep ho
  refine ⟨fun h0 => (by rw [hr] at h0; cases h0), fun q hq => ?_⟩
  rw [hr] at hq
  simp only [List.mem_cons, List.not_mem_nil, or_false] at hq
  rcases hq with rfl | rfl
  · exact wpOp_mono (fun a' w' ⟨e', H', h1, h2, h3, h4⟩ => ⟨fun _ => h2.sub h3, h4 ht hs h3 a' w' h1 h2⟩) (wpOp_of_RS hi h hrep ho)
  · exact wpOp_mono (fun a' w' ⟨e', H', h1, h2, h3, h4⟩ => ⟨fun _ => h2.sub h3, h4 ht hs h3 a' w' h1 h2⟩) (wpOp_of_RS hj h' hrep ho)
theorem CS.drawS {l : List Oper} {id : Nat} {Q : Exit → Env → HL → Prop} {HS : HL} (k : Nat) (hsub : HS.Sublist H) (hm : P.follows .mixedOrders = true) (hs : Region.noSelect l.toArray = true) (ht : tailW l.toArray k = true)
    (h : RT P W n l.toArray k HS (fun e H => Q .normal e H) l.length (Array.replicate l.length false) e H) : CS P W n (.region id l.toArray true) Q e H := by
  intro a w hr ho
  refine wp_mono (Q := PostN W n (fun e H => Q .normal e H)) (wp_region_any hm ?_) fun x a' w' hq => ?_
  · have := h ht hs hsub a w.drew hr ho.drew
    exact wpAny_of_T _ _ _ _ this
  · cases x <;> simp only [PostN] at hq
    exact hq
theorem CS.draw {l : List Oper} {id : Nat} {Q : Exit → Env → HL → Prop} (k : Nat) (hm : P.follows .mixedOrders = true) (hs : Region.noSelect l.toArray = true) (ht : tailW l.toArray k = true)
    (h : RT P W n l.toArray k H (fun e H => Q .normal e H) l.length (Array.replicate l.length false) e H) : CS P W n (.region id l.toArray true) Q e H := by
  intro a w hr ho
  refine wp_mono (Q := PostN W n (fun e H => Q .normal e H)) (wp_region_any hm ?_) fun x a' w' hq => ?_
  · have := h ht hs (List.Sublist.refl _) a w.drew hr ho.drew
    exact wpAny_of_T _ _ _ _ this
  · cases x <;> simp only [PostN] at hq
    exact hq
end
end Go.Proofs.Ytdfbeigjinhgiaa

namespace Go.Proofs.Ytdfbeigjinhgiaa
open Go Go.RowKit

abbrev flt (b : Nat) : Value := .float .f32 b
abbrev iv (i : Int) : Value := .int .i64 i
/-- A slice's cells that are floats: nothing is asked of an empty one. -/
def FS (w : World) (A : Option Addr) (xs : List Nat) : Prop :=
  0 < xs.length → ∃ b o, A = some ⟨b, o, none⟩ ∧ ∀ i x, xs[i]? = some x → w.cell? ⟨b, o + i, none⟩ = some (flt x)
theorem FS.own {W w : World} {H : HL} {A : Option Addr} {xs : List Nat} (h : FS W A xs) (ho : Own W w H) : FS w A xs := fun hn => by
  obtain ⟨b, o, h1, h2⟩ := h hn
  exact ⟨b, o, h1, fun i x hi => ho.old (h2 i x hi)⟩
theorem FS.blk {W w : World} {H : HL} {g : Nat} {t : TypeId} {xs : List Nat} {junk : List Value} (ho : Own W w H) (hm : (⟨g, t, xs.map flt ++ junk⟩ : B) ∈ H) : FS w (some ⟨g, 0, none⟩) xs := fun _ => by
  refine ⟨g, 0, rfl, fun i x hi => ?_⟩
  rw [(ho.blk _ hm).2.cell, Nat.zero_add]
  have hl : i < xs.length := (List.getElem?_eq_some_iff.1 hi).1
  have h1 : xs[i] = x := by simpa [hl] using hi
  simp [List.getElem?_append, hl, h1]
theorem FS.blk' {W w : World} {H : HL} {g : Nat} {t : TypeId} {xs : List Nat} (ho : Own W w H) (hm : (⟨g, t, xs.map flt⟩ : B) ∈ H) : FS w (some ⟨g, 0, none⟩) xs :=
  FS.blk (junk := []) ho (by simpa using hm)

def and7 (a : Int) : Int := IntKind.i64.wrap ((BitVec.ofInt 64 a &&& BitVec.ofInt 64 7).toNat : Int)
theorem and7_bd (a : Int) : 0 ≤ and7 a ∧ and7 a ≤ 7 := by
  unfold and7
  have h : (BitVec.ofInt 64 a &&& BitVec.ofInt 64 7).toNat ≤ 7 := by
    rw [BitVec.toNat_and]
    exact Nat.le_trans (Nat.and_le_right) (by decide)
  rw [w64 (by omega) (by omega)]
  omega
theorem QO.and7 {P : Program} {W : World} {H : HL} {e : Env} {x y : Operand} {t t' ty : TypeId} {i : Int} (hx : ev e x = .int .i64 i) (hy : ev e y = .int .i64 7) : QO P W H e (.binOp .and t x y t') ty (.int .i64 (and7 i)) := QO.ibin hx hy (op := .and) trivial

def clamp (a : Int) : Int := min (max a (-1000)) 1000
theorem clamp_bd (a : Int) : -1000 ≤ clamp a ∧ clamp a ≤ 1000 := by unfold clamp; omega
/-- the value that fit gives single i -/
def fitv (xs : List Nat) (i : Nat) : Nat := if 0 < xs.length then xs.getD (i % xs.length) 0 else 0
def fitL (xs : List Nat) (N k : Nat) : List Value := (List.range N).map fun i => flt (if i < k then fitv xs i else 0)
def fitN (wi he : Int) : Nat := (4 * (1 + and7 wi) * (1 + and7 he)).toNat
def fitV (xs : List Nat) (wi he : Int) : List Nat := (List.range (fitN wi he)).map (fitv xs)
theorem fitL_zero (xs : List Nat) (N : Nat) : fitL xs N 0 = List.replicate N (flt 0) := by
  unfold fitL
  apply List.ext_getElem <;> simp
theorem fitL_full (xs : List Nat) (wi he : Int) : fitL xs (fitN wi he) (fitN wi he) = (fitV xs wi he).map flt := by
  unfold fitL fitV
  rw [List.map_map]
  apply List.map_congr_left
  intro i hi
  simp [List.mem_range.1 hi]
theorem fitL_set (xs : List Nat) (N k : Nat) (hk : k < N) : (fitL xs N k).set k (flt (fitv xs k)) = fitL xs N (k + 1) := by
  unfold fitL
  apply List.ext_getElem?
  intro i
  by_cases hi : i = k
  · subst hi; simp [hk]
  · rw [List.getElem?_set_ne (Ne.symm hi)]
    by_cases hN : i < N
    · simp [hN]
      have : (i < k ↔ i < k + 1) := by omega
      simp [this]
    · simp [hN]
theorem fitL_set' (xs : List Nat) (N k x : Nat) (hx : x = fitv xs k) (hk : k < N) : (fitL xs N k).set k (flt x) = fitL xs N (k + 1) := by subst hx; exact fitL_set xs N k hk
theorem fitv_at (xs : List Nat) (k : Nat) (h : k % xs.length < xs.length) : xs[k % xs.length] = fitv xs k := by
  unfold fitv
  rw [if_pos (by omega), List.getD_eq_getElem?_getD, List.getElem?_eq_getElem h]; rfl
theorem fitL_len (xs : List Nat) (N k : Nat) : (fitL xs N k).length = N := by simp [fitL]
theorem fitL_skip (xs : List Nat) (N k : Nat) (hx : xs.length = 0) : fitL xs N k = fitL xs N (k + 1) := by
  unfold fitL
  apply List.map_congr_left
  intro i _
  have : fitv xs i = 0 := by unfold fitv; rw [if_neg (by omega)]
  simp [this]
theorem tmod_cast (a b : Nat) : (a : Int).tmod (b : Int) = ((a % b : Nat) : Int) := by simp [Int.tmod]
theorem mul_bd {a b : Int} (h1 : 1 ≤ a) (h2 : a ≤ 32) (h3 : 1 ≤ b) (h4 : b ≤ 8) : 1 ≤ a * b ∧ a * b ≤ 256 := by
  have h5 : a * 1 ≤ a * b := Int.mul_le_mul_of_nonneg_left h3 (by omega)
  have h6 : a * b ≤ a * 8 := Int.mul_le_mul_of_nonneg_left h4 (by omega)
  omega
/-- A list of floats that is filled up to k. -/
def partL (f : Nat → Nat) (N k : Nat) : List Value := (List.range N).map fun i => flt (if i < k then f i else 0)
theorem getD_at (xs : List Nat) (i : Nat) (h : i < xs.length) : xs[i] = xs.getD i 0 := by
  rw [List.getD_eq_getElem?_getD, List.getElem?_eq_getElem h]; rfl
theorem FS.take {W : World} {A : Option Addr} {xs : List Nat} (h : FS W A xs) (k : Nat) : FS W A (xs.take k) := fun hn => by
  obtain ⟨b, o, h1, h2⟩ := h (by simp at hn; omega)
  refine ⟨b, o, h1, fun i x hi => h2 i x ?_⟩
  rw [List.getElem?_take] at hi
  split at hi
  · exact hi
  · cases hi
theorem FS.drop {W : World} {b o c : Nat} {xs : List Nat} (h : FS W (some ⟨b, o, none⟩) xs) (k : Nat) (hc : xs.length ≤ c) : FS W (cutAt b o k c 1) (xs.drop k) := fun hn => by
  simp at hn
  obtain ⟨b', o', h1, h2⟩ := h (by omega)
  injection h1 with h1
  injection h1 with h1 h3
  subst h1 h3
  refine ⟨b, o + k, by rw [cutAt_eq (by omega), Nat.mul_one], fun i x hi => ?_⟩
  rw [List.getElem?_drop] at hi
  rw [Nat.add_assoc]
  exact h2 _ x hi
/-- The places of a plane. -/
def planeF (xs : List Nat) (ch : Int) (i : Nat) : Nat := cl (xs.getD (4 * (i : Int) + ch).toNat 0)
def planeV (xs : List Nat) (ch : Int) (m : Nat) : List Nat := (List.range m).map (planeF xs ch)
end Go.Proofs.Ytdfbeigjinhgiaa

namespace Go.Proofs.Ytdfbeigjinhgiaa
open Go Go.RowKit Go.WideShapes

def All2 {α β : Type} (R : α → β → Prop) : List α → List β → Prop
  | [], [] => True
  | a :: as, b :: bs => R a b ∧ All2 R as bs
  | _, _ => False
theorem All2.append {α β : Type} {R : α → β → Prop} : ∀ {a : List α} {b : List β} {a' : List α} {b' : List β}, All2 R a b → All2 R a' b' → All2 R (a ++ a') (b ++ b')
  | [], [], _, _, _, h => h
  | _ :: _, _ :: _, _, _, h, h' => ⟨h.1, h.2.append h'⟩
theorem All2.len {α β : Type} {R : α → β → Prop} : ∀ {a : List α} {b : List β}, All2 R a b → a.length = b.length
  | [], [], _ => rfl
  | _ :: _, _ :: _, h => by simp [All2.len h.2]
theorem All2.cons_inv {α β : Type} {R : α → β → Prop} {a : α} {as : List α} : ∀ {cs : List β}, All2 R (a :: as) cs → ∃ c cs', cs = c :: cs' ∧ R a c ∧ All2 R as cs'
  | [], h => h.elim
  | c :: cs', h => ⟨c, cs', rfl, h.1, h.2⟩
theorem All2.nil_inv {α β : Type} {R : α → β → Prop} : ∀ {cs : List β}, All2 R ([] : List α) cs → cs = []
  | [], _ => rfl
  | _ :: _, h => h.elim
/-- Four things by their number. -/
def f4 {α : Type} (a b c d : α) : Nat → α
  | 0 => a
  | 1 => b
  | 2 => c
  | _ => d
def leavesF (g : TypeId → Option (List TypeId)) : Nat → List Field → Option (List TypeId)
  | _, [] => some []
  | off, f :: fs => if f.offset = off then (g f.type).bind fun a => (leavesF g (off + a.length) fs).map (a ++ ·) else none
def leaves (P : Program) : Nat → TypeId → Option (List TypeId)
  | 0, _ => none
  | n + 1, t => match P.underlying t with
    | some (.struct fs) => (leavesF (leaves P n) 0 fs.toList).bind fun ls => if ls.length = P.cellsOf t then some ls else none
    | some (.array m e) => (leaves P n e).bind fun a => if a.length = P.cellsOf e ∧ m * a.length = P.cellsOf t then some (List.replicate m a).flatten else none
    | _ => some [t]

section
variable {H : Type} {enc : TypeId × Value → H} {P : Program} {w : World} {base : Nat} {spare : Nat → Bool} {held : Bool}
/-- A leaf that reads. -/
def Leaf (enc : TypeId × Value → H) (P : Program) (w : World) (base : Nat) (spare : Nat → Bool) (held : Bool) (l : TypeId) (c : Value) : Prop := ∃ fuel x, DataW.trod enc P w base spare held fuel l [c] = some x

theorem leavesF_trod {g : TypeId → Option (List TypeId)} {fuel : Nat} (hg : ∀ t ls cs x, g t = some ls → DataW.trod enc P w base spare held fuel t cs = some x → All2 (Leaf enc P w base spare held) ls cs)
    (cs : List Value) : ∀ (fs : List Field) (off : Nat) (ls : List TypeId), leavesF g off fs = some ls → (∀ f ∈ fs, ∃ x, DataW.trod enc P w base spare held fuel f.type ((cs.drop f.offset).take (P.cellsOf f.type)) = some x) →
      All2 (Leaf enc P w base spare held) ls ((cs.drop off).take ls.length)
  | [], off, ls, h, _ => by
    simp [leavesF] at h; subst h; simp [All2]
  | f :: fs, off, ls, h, hx => by
    unfold leavesF at h
    split at h
    · rename_i ho
      obtain ⟨a, ha, h⟩ := Option.bind_eq_some_iff.1 h
      obtain ⟨r, hr, rfl⟩ := Option.map_eq_some_iff.1 h
      obtain ⟨x, h1⟩ := hx f (by simp)
      have h2 := hg _ _ _ _ ha h1
      have h3 := h2.len
      have h4 := leavesF_trod hg cs fs _ r hr (fun f' hf => hx f' (by simp [hf]))
      have h5 : (cs.drop f.offset).take (P.cellsOf f.type) = (cs.drop off).take a.length := by
        rw [ho]
        rw [ho] at h3
        rw [List.length_take] at h3
        rw [h3]
        exact List.take_eq_take_min
      rw [h5] at h2
      have h6 : (cs.drop off).take (a ++ r).length = (cs.drop off).take a.length ++ (cs.drop (off + a.length)).take r.length := by
        rw [List.length_append, List.take_add, List.drop_drop]
      rw [h6]
      exact h2.append h4
    · cases h

theorem All2.flat {α β : Type} {R : α → β → Prop} {a : List α} (cs : List β) : ∀ (m : Nat), (∀ i, i < m → All2 R a ((cs.drop (i * a.length)).take a.length)) → All2 R (List.replicate m a).flatten (cs.take (m * a.length))
  | 0, _ => by simp [All2]
  | m + 1, h => by
    rw [List.replicate_succ', List.flatten_append, Nat.succ_mul, List.take_add]
    refine (All2.flat cs m fun i hi => h i (by omega)).append ?_
    simpa using h m (by omega)

/-- A VALUE THAT READS IS THE ROW OF ITS LEAVES. -/
theorem leaves_trod : ∀ (n : Nat) {fuel : Nat} {t : TypeId} {ls : List TypeId} {cs : List Value} {x : DataW H × List MemPlace}, leaves P n t = some ls → DataW.trod enc P w base spare held fuel t cs = some x → All2 (Leaf enc P w base spare held) ls cs
  | 0, _, _, _, _, _, h, _ => by simp [leaves] at h
  | n + 1, fuel, t, ls, cs, x, h, hx => by
    unfold leaves at h
    split at h
    · rename_i fs ht
      obtain ⟨ls', h1, h⟩ := Option.bind_eq_some_iff.1 h
      split at h
      · rename_i hl
        injection h with h
        subst h
        obtain ⟨xs, m, rfl, _, hc, hxl, hf⟩ := DataW.trod_struct ht hx
        have := leavesF_trod (fuel := m) (fun t ls cs x a b => leaves_trod n a b) cs fs.toList 0 ls' h1 (fun f hm => by
          obtain ⟨i, hi, he⟩ := List.getElem_of_mem hm
          have h2 := hf i f (by simp at hi; simp [← he, hi])
          have h3 : i < xs.length := by simp at hi; omega
          exact ⟨xs[i], by rw [h2]; simp [h3]⟩)
        rw [hl, ← hc] at this
        simpa using this
      · cases h
    · rename_i m e ht
      obtain ⟨a, h1, h⟩ := Option.bind_eq_some_iff.1 h
      split at h
      · rename_i hl
        injection h with h
        subst h
        obtain ⟨xs, k, rfl, _, hc, hxl, hf⟩ := DataW.trod_array ht hx
        have := All2.flat (R := Leaf enc P w base spare held) (a := a) cs m (fun i hi => by
          have h2 := hf i hi
          have h3 : i < xs.length := by omega
          rw [← hl.1] at h2
          exact leaves_trod n h1 (h2.trans (List.getElem?_eq_getElem h3)))
        rw [hl.2, ← hc] at this
        simpa using this
      · cases h
    · injection h with h
      subst h
      match cs, hx with
      | [c], hx => exact ⟨⟨_, _, hx⟩, trivial⟩
      | [], hx =>
        exfalso
        cases fuel with
        | zero => simp [DataW.trod] at hx
        | succ m => unfold DataW.trod at hx; split at hx <;> simp_all
      | _ :: _ :: _, hx =>
        exfalso
        cases fuel with
        | zero => simp [DataW.trod] at hx
        | succ m => unfold DataW.trod at hx; split at hx <;> simp_all

theorem leaf_of {t : TypeId} {v : Value} {d : DataW H} {p : List MemPlace} (h : DataW.Trod enc P w base spare held t v d p) (hv : v.cells.toList = [v]) : Leaf enc P w base spare held t v := by
  obtain ⟨fuel, hf⟩ := h
  rw [hv] at hf
  exact ⟨fuel, _, hf⟩
theorem open_agg {n : Nat} {t : TypeId} {fs : Array Field} {ls : List TypeId} {W : World} {r : Reach} {b0 : Nat} {v : Value} {d : DataW H} {p : List MemPlace} (ht : P.underlying t = some (.struct fs)) (hl : leaves P n t = some ls)
    (hval : Value.okWide P W r b0 t v) (h : DataW.Trod enc P w base spare held t v d p) : ∃ cs : List Value, v = .agg cs.toArray ∧ All2 (Leaf enc P w base spare held) ls cs := by
  obtain ⟨cs, rfl, _⟩ := okWide_struct ht hval
  obtain ⟨fuel, hf⟩ := h
  exact ⟨cs.toList, rfl, leaves_trod n hl hf⟩
theorem Leaf.int {l : TypeId} {c : Value} {k : IntKind} (ht : P.underlying l = some (.int k)) (h : Leaf enc P w base spare held l c) : ∃ n, c = .int k n ∧ (Lit.int k n).wf = true := by
  obtain ⟨fuel, x, hx⟩ := h
  obtain ⟨n, h1, _, h3⟩ := DataW.trod_int ht hx
  exact ⟨n, by simpa using h1, h3⟩
theorem Leaf.bool {l : TypeId} {c : Value} (ht : P.underlying l = some .bool) (h : Leaf enc P w base spare held l c) : ∃ b, c = .bool b := by
  obtain ⟨fuel, x, hx⟩ := h
  obtain ⟨n, h1, _⟩ := DataW.trod_bool ht hx
  exact ⟨n, by simpa using h1⟩
theorem Leaf.string {l : TypeId} {c : Value} (ht : P.underlying l = some .string) (h : Leaf enc P w base spare held l c) : ∃ s : ByteArray, c = .string s ∧ s.size ≤ maxLen := by
  obtain ⟨fuel, x, hx⟩ := h
  obtain ⟨n, h1, _, h3⟩ := DataW.trod_string ht hx
  exact ⟨n, by simpa using h1, h3⟩
theorem Leaf.float {l : TypeId} {c : Value} {k : FloatKind} (ht : P.underlying l = some (.float k)) (h : Leaf enc P w base spare held l c) : ∃ n, c = .float k n ∧ (Lit.float k n).wf = true := by
  obtain ⟨fuel, x, hx⟩ := h
  cases fuel with
  | zero => simp [DataW.trod] at hx
  | succ n =>
    unfold DataW.trod at hx
    rw [ht] at hx
    split at hx <;> simp_all
/-- A slice of elements of one cell. -/
theorem Leaf.slice1 {l e : TypeId} {c : Value} (ht : P.underlying l = some (.slice e)) (hc : P.cellsOf e = 1) (h : Leaf enc P w base spare held l c) :
    ∃ (A : Option Addr) (n cap : Nat) (V : Nat → Value), c = .slice A n cap ∧ n ≤ maxLen ∧ ∀ i, i < n → ∃ a, A = some a ∧ w.cell? (a.add i) = some (V i) ∧ Leaf enc P w base spare held e (V i) := by
  obtain ⟨fuel, x, hx⟩ := h
  rcases Go.Deep.open_slice1 ht hc hx with ⟨h1, _⟩ | ⟨a, len, cap, m, n, V, D, Pl, h1, _, h2, h3, h4, _, h5⟩
  · exact ⟨none, 0, 0, fun _ => .nilFunc, by simpa using h1, by simp, fun i hi => by omega⟩
  · refine ⟨some a, len, cap, V, by simpa using h1, by omega, fun i hi => ⟨a, rfl, ?_⟩⟩
    obtain ⟨h6, h7⟩ := h5 i (by rw [h4]; split <;> omega)
    exact ⟨h6, _, _, h7⟩
theorem Leaf.floats {l e : TypeId} {c : Value} (ht : P.underlying l = some (.slice e)) (he : P.underlying e = some (.float .f32)) (hc : P.cellsOf e = 1) (h : Leaf enc P w base spare held l c) :
    ∃ (A : Option Addr) (n cap : Nat) (xs : List Nat), c = .slice A n cap ∧ n ≤ maxLen ∧ xs.length = n ∧ FS w A xs ∧ ∀ x ∈ xs, x < 2 ^ 32 := by
  obtain ⟨A, n, cap, V, rfl, hm, hV⟩ := h.slice1 ht hc
  obtain ⟨F, hF⟩ := Go.Deep.choose_lt (α := Nat) (n := n) (p := fun i b => ∃ a, A = some a ∧ w.cell? (a.add i) = some (flt b) ∧ b < 2 ^ 32) (fun i hi => by
    obtain ⟨a, h1, h2, h3⟩ := hV i hi
    obtain ⟨b, h4, h5⟩ := h3.float he
    exact ⟨b, a, h1, by rw [h2, h4], by simpa [Lit.wf] using h5⟩)
  refine ⟨A, n, cap, (List.range n).map F, rfl, hm, by simp, fun hp => ?_, fun x hx => ?_⟩
  · simp at hp
    obtain ⟨⟨b, o, sp⟩, rfl, h2, _⟩ := hF 0 hp
    have hsp : sp = none := by simpa [Addr.add] using World.cell?_spot h2
    subst hsp
    refine ⟨b, o, rfl, fun i x hi => ?_⟩
    have hl : i < n := by simpa using (List.getElem?_eq_some_iff.1 hi).1
    obtain ⟨a, h3, h4, _⟩ := hF i hl
    injection h3 with h3
    subst h3
    rw [addr_add] at h4
    simp [hl] at hi
    rw [h4, hi]
  · simp at hx
    obtain ⟨i, hi, rfl⟩ := hx
    obtain ⟨_, _, _, h⟩ := hF i hi
    exact h
end
end Go.Proofs.Ytdfbeigjinhgiaa

namespace Go.Proofs.Ytdfbeigjinhgiaa
open Go Go.RowKit

theorem read_nan {b : Nat} (h : nan32 b = true) : ∃ s f, Ieee.single.read b = .nan s f := by
  simp only [nan32, decide_eq_true_eq] at h
  have e1 : Ieee.single.signWeight = 0x80000000 := rfl
  have e2 : Ieee.single.binade = 0x800000 := rfl
  have e3 : Ieee.single.infRung = 0x7f800000 := rfl
  unfold Ieee.Format.read
  simp only [e1, e2, e3]
  rw [if_neg (by omega), if_neg (by omega), if_neg (by omega)]
  exact ⟨_, _, rfl⟩
theorem read_num {b : Nat} (h : nan32 b = false) : (∃ s m p, Ieee.single.read b = .number s m p) ∨ ∃ s, Ieee.single.read b = .infinity s := by
  simp only [nan32, decide_eq_false_iff_not, Nat.not_lt] at h
  have e1 : Ieee.single.signWeight = 0x80000000 := rfl
  have e2 : Ieee.single.binade = 0x800000 := rfl
  have e3 : Ieee.single.infRung = 0x7f800000 := rfl
  unfold Ieee.Format.read
  simp only [e1, e2, e3]
  split
  · exact .inl ⟨_, _, _, rfl⟩
  · split
    · exact .inl ⟨_, _, _, rfl⟩
    · rw [if_pos (by omega)]; exact .inr ⟨_, rfl⟩
theorem order_nan {a b : Nat} (h : nan32 a = true ∨ nan32 b = true) : Ieee.single.order a b = none := by
  unfold Ieee.Format.order
  rcases h with h | h
  · obtain ⟨s, f, e⟩ := read_nan h
    rw [e]; rfl
  · obtain ⟨s, f, e⟩ := read_nan h
    rw [e]
    cases Ieee.single.read a <;> rfl
theorem order_self {b : Nat} (h : nan32 b = false) : Ieee.single.order b b = some .eq := by
  unfold Ieee.Format.order
  rcases read_num h with ⟨s, m, p, e⟩ | ⟨s, e⟩ <;> rw [e]
  · simp [Ieee.Datum.order, Std.ReflCmp.compare_self]
  · simp [Ieee.Datum.order]
theorem fneq_self (b : Nat) : fcmpB .neq b b = nan32 b := by
  unfold fcmpB
  cases h : nan32 b
  · rw [order_self h]; rfl
  · rw [order_nan (.inl h)]; rfl
theorem nan_cl (b : Nat) : nan32 (cl b) = nan32 b := by
  unfold cl
  cases h : nan32 b
  · simp [h]
  · rfl
theorem cl_num {b : Nat} (h : nan32 b = false) : cl b = b := by unfold cl; rw [h]; rfl
theorem cl_nan {b : Nat} (h : nan32 b = true) : cl b = 0x7fc00000 := by unfold cl; rw [h]; rfl
theorem cl_cl (b : Nat) : cl (cl b) = cl b := by
  cases h : nan32 b
  · rw [cl_num (b := cl b) (by rw [nan_cl]; exact h)]
  · rw [cl_nan (b := cl b) (by rw [nan_cl]; exact h), cl_nan h]
/-- What an operation gives, its NaN the one NaN. -/
def fo (op : BinOp) (a b : Nat) : Nat := cl ((fop op a b).getD 0x7fc00000)
theorem FR.cl {op : BinOp} {a b r : Nat} (h : FR (fop op a b) r) : cl r = fo op a b := by
  unfold fo
  cases hf : fop op a b with
  | none => rw [hf] at h; exact cl_nan h
  | some s => rw [hf] at h; obtain rfl : r = s := h; rfl
/-- A sum by halves. -/
def sumT : (fuel : Nat) → List Nat → Nat
  | 0, _ => 0
  | _ + 1, [] => 0
  | _ + 1, [x] => cl x
  | f + 1, l => fo .add (sumT f (l.take (l.length / 2))) (sumT f (l.drop (l.length / 2)))
def sum (l : List Nat) : Nat := sumT (l.length + 1) l
end Go.Proofs.Ytdfbeigjinhgiaa

namespace Go.Proofs.Ytdfbeigjinhgiaa
open Go Go.RowKit

/-- A slice value with n elements of size s that read as xs: nil, or the beginning of a block of its own. -/
inductive Row (el : TypeId) (s : Nat) : Value → Nat → List Value → HL → Prop where
  | nil : Row el s (.slice none 0 0) 0 [] []
  | own {g n cap : Nat} {xs junk : List Value} (hl : xs.length = n * s) (hc : xs.length + junk.length = cap * s) (hn : n ≤ cap) (hm : cap ≤ maxLen) : Row el s (.slice (some ⟨g, 0, none⟩) n cap) n xs [⟨g, el, xs ++ junk⟩]
theorem Row.some {el s : Nat} {v : Value} {n : Nat} {xs : List Value} {H : HL} (h : Row el s v n xs H) (hn : 0 < n) :
    ∃ g cap junk, v = .slice (some ⟨g, 0, none⟩) n cap ∧ H = [⟨g, el, xs ++ junk⟩] ∧ n ≤ cap ∧ cap ≤ maxLen ∧ xs.length = n * s := by
  cases h with
  | nil => omega
  | own hl hc hn hm => exact ⟨_, _, _, rfl, rfl, hn, hm, hl⟩
theorem Row.len {el s : Nat} {v : Value} {n : Nat} {xs : List Value} {H : HL} (h : Row el s v n xs H) : xs.length = n * s := by
  cases h with
  | nil => simp
  | own hl hc hn hm => exact hl
theorem Row.slice {el s : Nat} {v : Value} {n : Nat} {xs : List Value} {H : HL} (h : Row el s v n xs H) : ∃ A c, v = .slice A n c ∧ n ≤ c ∧ c ≤ maxLen := by
  cases h with
  | nil => exact ⟨_, _, rfl, Nat.le_refl _, Nat.zero_le _⟩
  | own hl hc hn hm => exact ⟨_, _, rfl, hn, hm⟩
/-- What a list ends in. -/
inductive Suf (Hr : HL) : HL → HL → Prop where
  | base : Suf Hr Hr []
  | cons {b : B} {H L : HL} (h : Suf Hr H L) : Suf Hr (b :: H) (b :: L)
theorem Suf.eq {Hr H L : HL} (h : Suf Hr H L) : H = L ++ Hr := by
  induction h with
  | base => rfl
  | cons _ ih => simp [ih]
section
variable {P : Program} {W : World} {n : Nat} {ops : Array Oper} {Q : Env → HL → Prop} {rest : List Oper} {e : Env} {H : HL}
variable {d : Tmp} {ty t : TypeId} {pos : String} {af : Array Edge} {x y : Operand} {v : Value} {z : List Value} {ag : Bool} {by_ : Nat}
theorem RS.appendRow {el : TypeId} {l m c : Nat} {a : Addr} {xs news : List Value} {Hr L : HL} (hd : Nat.blt d n = true) (hu : P.underlying t = some (.slice el)) (he : tyChk P el = some (z, ag, by_))
    (hx : ev e x = v) (hrow : Row el z.length v l xs Hr) (hs : Suf Hr H L)
    (hy : ev e y = .slice (some a) m c) (hsrc : Src W H a news) (hnl : news.length = m * z.length) (h1 : news.all (·.oneCell') = true) (hz : 0 < z.length) (hm : 0 < m) (h63 : l + m ≤ maxLen) (hby : (l + m) * by_ ≤ 140737488355328)
    (k : ∀ v' Hr', Row el z.length v' (l + m) (xs ++ news) Hr' → RS P W n ops Q rest (put e d v') (L ++ Hr')) :
    RS P W n ops Q (⟨some d, .call ⟨.builtin .append, #[x, y], #[t, t]⟩, ty, pos, af, none⟩ :: rest) e H := by
  have h1' : ∀ u ∈ news, u.oneCell' = true := fun u hu => by simpa using List.all_eq_true.1 h1 u hu
  have hH := hs.eq
  cases hrow with
  | nil =>
    rw [Nat.zero_add] at h63 hby
    refine RS.appendNil hd hu he hx hy hm hsrc hnl h1' hz h63 hby fun g' cap' junk' q1 q2 q3 => ?_
    have hr : Row el z.length (.slice (some ⟨g', 0, none⟩) (0 + m) cap') (0 + m) ([] ++ news) [⟨g', el, news ++ junk'⟩] := by
      rw [Nat.zero_add, List.nil_append]; exact .own hnl q1 q2 q3
    have := k _ _ hr
    rw [Nat.zero_add] at this
    refine RS.perm ?_ this
    rw [hH, List.append_nil]
    exact (List.perm_append_singleton _ _).symm
  | @own g _ cap _ junk hl hc hn hmx =>
    have hrem : ∃ H', Rem ⟨g, el, xs ++ junk⟩ H H' ∧ H'.Perm L := by
      rw [hH]
      clear hH hs k hsrc
      induction L with
      | nil => exact ⟨[], .head, .refl _⟩
      | cons b L ih =>
        obtain ⟨H', h1, h2⟩ := ih
        exact ⟨b :: H', .tail h1, h2.cons b⟩
    obtain ⟨H', hr1, hr2⟩ := hrem
    refine RS.append hd hu he hx hr1 hl hc hn hmx hy hsrc hnl h1' hz h63 hby fun g' cap' junk' q1 q2 q3 => ?_
    have hr : Row el z.length (.slice (some ⟨g', 0, none⟩) (l + m) cap') (l + m) (xs ++ news) [⟨g', el, (xs ++ news) ++ junk'⟩] :=
      .own (by rw [List.length_append, hl, hnl, Nat.add_mul]) (by rw [List.length_append]; exact q1) q2 q3
    refine RS.perm ?_ (k _ _ hr)
    exact (hr2.cons _).trans (List.perm_append_singleton _ _).symm
end
theorem Src.blk {W : World} {H : HL} {g : Nat} {tb : TypeId} {cs : List Value} (hm : (⟨g, tb, cs⟩ : B) ∈ H) : Src W H ⟨g, 0, none⟩ cs := .inr ⟨g, 0, tb, cs, rfl, hm, fun j u h => by rw [Nat.zero_add]; exact h⟩
end Go.Proofs.Ytdfbeigjinhgiaa

namespace Go.Proofs.Ytdfbeigjinhgiaa
open Go Go.RowKit

def intFields (P : Program) : Nat → List Field → Bool
  | _, [] => true
  | o, f :: fs => f.name != "_" && f.offset == o && (match P.underlying f.type with | some (.int .i64) => true | _ => false) && (match tyChk P f.type with | some ([_], false, _) => true | _ => false) && intFields P (o + 1) fs
def intsT (P : Program) (t : TypeId) : Nat :=
  match P.underlying t with
  | some (.struct fs) => if P.stoodInHeld t = false ∧ P.eqGuardType P.depth t = false ∧ intFields P 0 fs.toList = true then fs.size else 0
  | _ => 0
theorem eqFields_ints {P : Program} {w : World} {d : Nat} {X Y : List Value} : ∀ (fs : List Field) (o : Nat) (zs ws : List Int), intFields P o fs = true → zs.length = fs.length → ws.length = fs.length → X.drop o = zs.map iv → Y.drop o = ws.map iv →
    (Op.eqFields (d + 1) X.toArray Y.toArray fs).run P w = .ok (zs == ws) w
  | [], o, [], [], _, _, _, _, _ => by simp [Op.eqFields]
  | f :: fs, o, z :: zs, v :: ws, h, h1, h2, h3, h4 => by
    simp only [intFields, Bool.and_eq_true, bne_iff_ne, ne_eq, beq_iff_eq] at h
    obtain ⟨⟨⟨⟨hn, ho⟩, hu⟩, hc⟩, hr⟩ := h
    split at hu
    · rename_i hu'
      split at hc
      · rename_i q b hc'
        have hx : X[o]? = some (iv z) := by
          have := congrArg (·[0]?) h3
          simpa using this
        have hy : Y[o]? = some (iv v) := by
          have := congrArg (·[0]?) h4
          simpa using this
        have h3' : X.drop (o + 1) = zs.map iv := by rw [← List.drop_drop, h3]; rfl
        have h4' : Y.drop (o + 1) = ws.map iv := by rw [← List.drop_drop, h4]; rfl
        have ih := eqFields_ints (w := w) (d := d) fs (o + 1) zs ws hr (by simpa using h1) (by simpa using h2) h3' h4'
        subst ho
        unfold Op.eqFields
        rw [if_pos (by simpa using hn)]
        have e1 : (part f.type X.toArray f.offset).run P w = .ok (iv z) w := by simp [part, run_ag hc', hx]
        have e2 : (part f.type Y.toArray f.offset).run P w = .ok (iv v) w := by simp [part, run_ag hc', hy]
        simp only [Sem.run_bind, e1, e2, Result.andThen_ok, run_equalIn_int w d f.type .i64 .i64 z v hu']
        by_cases e : z = v
        · subst e; simpa using ih
        · have : (z == v) = false := by simpa using e
          have h5 : (z :: zs == v :: ws) = false := by
            show (z == v && zs == ws) = false
            rw [this]; rfl
          simp [this]
      · cases hc
    · cases hu
  | [], _, _ :: _, _, _, h1, _, _, _ => by simp at h1
  | [], _, [], _ :: _, _, _, h2, _, _ => by simp at h2
  | _ :: _, _, [], _, _, h1, _, _, _ => by simp at h1
  | _ :: _, _, _ :: _, [], _, _, h2, _, _ => by simp at h2
theorem equal_ints {P : Program} {t : TypeId} {n : Nat} (hn : intsT P t = n) (h0 : 0 < n) {zs ws : List Int} (h1 : zs.length = n) (h2 : ws.length = n) (w : World) :
    (Op.equalIn 10000 t (.agg (zs.map iv).toArray) (.agg (ws.map iv).toArray)).run P w = .ok (zs == ws) w ∧ P.eqGuardType P.depth t = false := by
  unfold intsT at hn
  split at hn
  · rename_i fs hu
    split at hn
    · rename_i hh
      refine ⟨?_, hh.2.1⟩
      have hf : P.fieldsOf t = fs := by unfold Program.fieldsOf; rw [hu]
      have h9 := run_equalIn_struct w 9999 t (zs.map iv).toArray (ws.map iv).toArray (by rw [hf]; exact hu) hh.1
      rw [h9, hf]
      exact eqFields_ints (d := 9998) fs.toList 0 zs ws hh.2.2 (by simp [h1, hn]) (by simp [h2, hn]) rfl rfl
    · omega
  · omega
section
variable {P : Program} {W : World} {H : HL} {e : Env} {x y : Operand} {t t' ty : TypeId}
theorem QO.seql {zs ws : List Int} {n : Nat} (hn : intsT P t = n) (h0 : 0 < n) (hx : ev e x = .agg (zs.map iv).toArray) (hy : ev e y = .agg (ws.map iv).toArray) (h1 : zs.length = n) (h2 : ws.length = n) : QO P W H e (.binOp .eql t x y t') ty (.bool (zs == ws)) := by
  refine QO.bin hx hy (fun w => ?_)
  obtain ⟨h3, h4⟩ := equal_ints hn h0 h1 h2 w
  simp only [Sem.run_bind, run_eqGuard_agg w .eql t x y _ _ h4, Result.andThen_ok, run_eql_struct, h3]
theorem QO.sneq {zs ws : List Int} {n : Nat} (hn : intsT P t = n) (h0 : 0 < n) (hx : ev e x = .agg (zs.map iv).toArray) (hy : ev e y = .agg (ws.map iv).toArray) (h1 : zs.length = n) (h2 : ws.length = n) : QO P W H e (.binOp .neq t x y t') ty (.bool (zs != ws)) := by
  refine QO.bin hx hy (fun w => ?_)
  obtain ⟨h3, h4⟩ := equal_ints hn h0 h1 h2 w
  simp only [Sem.run_bind, run_eqGuard_agg w .neq t x y _ _ h4, Result.andThen_ok, run_neq_struct, h3]
  rfl
/-- The same for structs of four integers. -/
theorem QO.seql4 {a b c d a' b' c' d' : Int} (hn : intsT P t = 4) (hx : ev e x = .agg #[iv a, iv b, iv c, iv d]) (hy : ev e y = .agg #[iv a', iv b', iv c', iv d']) : QO P W H e (.binOp .eql t x y t') ty (.bool ([a, b, c, d] == [a', b', c', d'])) := QO.seql (zs := [a, b, c, d]) (ws := [a', b', c', d']) hn (by decide) hx hy rfl rfl
theorem QO.sneq4 {a b c d a' b' c' d' : Int} (hn : intsT P t = 4) (hx : ev e x = .agg #[iv a, iv b, iv c, iv d]) (hy : ev e y = .agg #[iv a', iv b', iv c', iv d']) : QO P W H e (.binOp .neq t x y t') ty (.bool ([a, b, c, d] != [a', b', c', d'])) := QO.sneq (zs := [a, b, c, d]) (ws := [a', b', c', d']) hn (by decide) hx hy rfl rfl
end
end Go.Proofs.Ytdfbeigjinhgiaa

namespace Go.Proofs.Ytdfbeigjinhgiaa
open Go Go.RowKit

/-- A pixel. -/
abbrev pxv (q : Nat → Nat) : Value := .agg #[flt (q 0), flt (q 1), flt (q 2), flt (q 3)]
theorem idx4 {α : Type} (f : Nat → α) (k : Nat) (h : k < 4) : [f 0, f 1, f 2, f 3][k]? = some (f k) := by
  match k, h with
  | 0, _ => rfl
  | 1, _ => rfl
  | 2, _ => rfl
  | 3, _ => rfl
theorem idx4i {α : Type} (f : Nat → α) (k : Nat) (h : k < 4) : [f 0, f 1, f 2, f 3][((k : Nat) : Int).toNat]? = some (f k) := by rw [Int.toNat_natCast]; exact idx4 f k h
/-- The numbers of a frame that is made pixel by pixel. -/
def madeF (p : Int → Int → Nat → Nat) (x y : Int) (w : Nat) (i : Nat) : Nat := cl (p (x + ((i / 4 % w : Nat) : Int)) (y + ((i / 4 / w : Nat) : Int)) (i % 4))
def madeV (p : Int → Int → Nat → Nat) (x y : Int) (w m : Nat) : List Nat := (List.range m).map (madeF p x y w)
theorem madeF_at {p : Int → Int → Nat → Nat} {x y : Int} {w yy xx c : Nat} (hx : xx < w) (hc : c < 4) : madeF p x y w (4 * (w * yy + xx) + c) = cl (p (x + xx) (y + yy) c) := by
  unfold madeF
  have h1 : (4 * (w * yy + xx) + c) / 4 = w * yy + xx := by omega
  have h2 : (4 * (w * yy + xx) + c) % 4 = c := by omega
  rw [h1, h2, Nat.mul_add_mod, Nat.mod_eq_of_lt hx, Nat.mul_add_div (by omega), Nat.div_eq_of_lt hx, Nat.add_zero]
theorem madeV_succ (p : Int → Int → Nat → Nat) (x y : Int) (w m : Nat) : madeV p x y w (m + 1) = madeV p x y w m ++ [madeF p x y w m] := by simp [madeV, List.range_succ]
theorem madeV_len (p : Int → Int → Nat → Nat) (x y : Int) (w m : Nat) : (madeV p x y w m).length = m := by simp [madeV]
def near (x X : Int) (w : Nat) : Int := min (max X x) (x + w - 1)
theorem near_bd {x X : Int} {w : Nat} (hw : 1 ≤ w) : ∃ i : Nat, i < w ∧ near x X w = x + i := ⟨(near x X w - x).toNat, by unfold near; omega, by unfold near; omega⟩
theorem near_in {x X : Int} {w : Nat} (h1 : x ≤ X) (h2 : X < x + w) : near x X w = X := by unfold near; omega
/-- A number of a pixel of a frame. -/
def pixF (xs : List Nat) (x y : Int) (w h : Nat) (X Y : Int) (c : Nat) : Nat := xs.getD (4 * ((near y Y h - y).toNat * w + (near x X w - x).toNat) + c) 0
theorem pixF_at {xs : List Nat} {x y : Int} {w h : Nat} {X Y : Int} {i j : Nat} (hi : near x X w = x + i) (hj : near y Y h = y + j) (c : Nat) : pixF xs x y w h X Y c = xs.getD (4 * (j * w + i) + c) 0 := by
  unfold pixF
  rw [hi, hj, show (y + (j : Int) - y).toNat = j by omega, show (x + (i : Int) - x).toNat = i by omega]
/-- pixels of a frame, made anew: its numbers. -/
theorem madeF_pix {xs : List Nat} {x y : Int} {w h : Nat} {i : Nat} (hi : i < 4 * (w * h)) (T : Nat → (Nat → Nat) → Nat) :
    madeF (fun X Y c => T c (pixF xs x y w h X Y)) x y w i = cl (T (i % 4) fun c => xs.getD (4 * (i / 4) + c) 0) := by
  unfold madeF
  have hw : 0 < w := by
    rcases Nat.eq_zero_or_pos w with h0 | h0
    · subst h0; simp at hi
    · exact h0
  have h1 : i / 4 / w < h := by rw [Nat.div_lt_iff_lt_mul hw, Nat.mul_comm]; omega
  have h2 : i / 4 % w < w := Nat.mod_lt _ hw
  show cl (T (i % 4) (pixF xs x y w h _ _)) = _
  congr 2
  funext c
  rw [pixF_at (i := i / 4 % w) (j := i / 4 / w) (near_in (Int.le_add_of_nonneg_right (Int.natCast_nonneg _)) (Int.add_lt_add_left (Int.ofNat_lt.2 h2) x)) (near_in (Int.le_add_of_nonneg_right (Int.natCast_nonneg _)) (Int.add_lt_add_left (Int.ofNat_lt.2 h1) y)), Nat.div_add_mod' (i / 4) w]
/-- the numbers of a block that is in the middle of a frame -/
theorem pix_bd {w h i j : Nat} (hi : i < w) (hj : j < h) : (j : Int) * (w : Int) + w ≤ (w : Int) * (h : Int) ∧ 0 ≤ (j : Int) * (w : Int) ∧ j * w + i < w * h := by
  have h1 : (j + 1) * w ≤ h * w := Nat.mul_le_mul_right w hj
  rw [Nat.add_mul, Nat.one_mul, Nat.mul_comm h w] at h1
  have h2 : ((j * w : Nat) : Int) = (j : Int) * (w : Int) := Int.natCast_mul ..
  have h3 : ((w * h : Nat) : Int) = (w : Int) * (h : Int) := Int.natCast_mul ..
  omega
end Go.Proofs.Ytdfbeigjinhgiaa

namespace Go.Proofs.Ytdfbeigjinhgiaa
open Go Go.RowKit

theorem fdiv_neg {a : Int} {s : Nat} (h : 1 ≤ s) (hm : a.tmod (s : Int) < 0) : a.tdiv (s : Int) - 1 = a / (s : Int) ∧ a.tmod (s : Int) + (s : Int) = a % (s : Int) := by
  rw [Int.tmod_eq_emod] at hm ⊢
  rw [Int.tdiv_eq_ediv]
  have h1 := Int.emod_nonneg a (b := (s : Int)) (by omega)
  split at hm
  · omega
  · rename_i h2
    rw [if_neg h2, if_neg h2, Int.sign_eq_one_of_pos (by omega)]
    constructor <;> omega
theorem fdiv_pos {a : Int} {s : Nat} (h : 1 ≤ s) (hm : ¬ a.tmod (s : Int) < 0) : a.tdiv (s : Int) = a / (s : Int) ∧ a.tmod (s : Int) = a % (s : Int) := by
  rw [Int.tmod_eq_emod] at hm ⊢
  rw [Int.tdiv_eq_ediv]
  have h1 := Int.emod_lt_of_pos a (b := (s : Int)) (by omega)
  split at hm
  · rename_i h2
    rw [if_pos h2, if_pos h2]
    constructor <;> omega
  · rename_i h2
    omega
theorem tdiv_bd {a : Int} {s : Nat} (h : -1000000000000 ≤ a ∧ a ≤ 1000000000000) : -1000000000000 ≤ a.tdiv (s : Int) ∧ a.tdiv (s : Int) ≤ 1000000000000 := by
  have := Int.natAbs_tdiv_le_natAbs a (s : Int)
  omega
/-- the place before the first tile -/
def px (X : Int) (s : Nat) : Nat := (X % (s : Int)).toNat
theorem px_eq {X : Int} {s : Nat} (h : 1 ≤ s) : ((px X s : Nat) : Int) = X % (s : Int) ∧ px X s < s := by
  have h1 := Int.emod_nonneg X (b := (s : Int)) (by omega)
  have h2 := Int.emod_lt_of_pos X (b := (s : Int)) (by omega)
  unfold px
  omega
/-- how many tiles -/
def cntI (X : Int) (w s : Nat) : Nat := (px X s + w + s - 1) / s
theorem cntI_iff {X : Int} {w s i : Nat} (h : 1 ≤ s) : i < cntI X w s ↔ s * i < px X s + w := by
  unfold cntI
  rw [Nat.lt_div_iff_mul_lt (by omega), Nat.mul_comm]
  omega
/-- where tile i begins, and how wide it is -/
def tb (X : Int) (s i : Nat) : Int := max X (X - (px X s : Nat) + ((s * i : Nat) : Int))
def tw (X : Int) (w s i : Nat) : Int := min (X + w) (X - (px X s : Nat) + ((s * i : Nat) : Int) + s) - tb X s i
theorem tw_pos {X : Int} {w s i : Nat} (h : 1 ≤ s) (hw : 1 ≤ w) (hi : i < cntI X w s) : 1 ≤ tw X w s i ∧ tw X w s i ≤ w := by
  have h1 := (cntI_iff h).1 hi
  have h2 := (px_eq (X := X) h).2
  unfold tw tb
  omega
/-- how much the first i tiles cover -/
def cov (X : Int) (w s i : Nat) : Int := min (w : Int) (max 0 (((s * i : Nat) : Int) - (px X s : Nat)))
theorem cov_zero (X : Int) (w s : Nat) : cov X w s 0 = 0 := by unfold cov; omega
theorem cov_succ {X : Int} {w s i : Nat} (h : 1 ≤ s) (hi : i < cntI X w s) : cov X w s (i + 1) = cov X w s i + tw X w s i := by
  have h1 := (cntI_iff h).1 hi
  have h2 := (px_eq (X := X) h).2
  have h3 : s * (i + 1) = s * i + s := Nat.mul_succ s i
  unfold cov tw tb
  rw [h3]
  omega
theorem cov_end {X : Int} {w s i : Nat} (h : 1 ≤ s) (hi : ¬ i < cntI X w s) : cov X w s i = w := by
  have h1 : ¬ s * i < px X s + w := fun h1 => hi ((cntI_iff h).2 h1)
  unfold cov
  omega
theorem cov_bd (X : Int) (w s i : Nat) : 0 ≤ cov X w s i ∧ cov X w s i ≤ w := by unfold cov; omega

abbrev Rg := Int × Int × Int × Int
def rgc (t : Rg) : List Value := [iv t.1, iv t.2.1, iv t.2.2.1, iv t.2.2.2]
def area (t : Rg) : Int := t.2.2.1 * t.2.2.2
def areas : List Rg → Int
  | [] => 0
  | t :: l => area t + areas l
/-- tile (i, j) of a region -/
def tile (X Y : Int) (w h s i j : Nat) : Rg := (tb X s i, tb Y s j, tw X w s i, tw Y h s j)
/-- the tiles of the rows below j -/
def rowsL (X Y : Int) (w h s : Nat) : Nat → List Rg
  | 0 => []
  | j + 1 => rowsL X Y w h s j ++ (List.range (cntI X w s)).map (tile X Y w h s · j)
/-- and of row j the first i -/
def tilesL (X Y : Int) (w h s j i : Nat) : List Rg := rowsL X Y w h s j ++ (List.range i).map (tile X Y w h s · j)
theorem tilesL_zero (X Y : Int) (w h s j : Nat) : tilesL X Y w h s j 0 = rowsL X Y w h s j := by simp [tilesL]
theorem tilesL_succ (X Y : Int) (w h s j i : Nat) : tilesL X Y w h s j (i + 1) = tilesL X Y w h s j i ++ [tile X Y w h s i j] := by simp [tilesL, List.range_succ]
theorem tilesL_row (X Y : Int) (w h s j : Nat) : tilesL X Y w h s j (cntI X w s) = rowsL X Y w h s (j + 1) := rfl
theorem mem_rows {X Y : Int} {w h s : Nat} {t : Rg} : ∀ j, t ∈ rowsL X Y w h s j → ∃ i k, i < cntI X w s ∧ k < j ∧ t = tile X Y w h s i k
  | 0, ht => by cases ht
  | j + 1, ht => by
    rcases List.mem_append.1 ht with h1 | h1
    · obtain ⟨i, k, h2, h3, h4⟩ := mem_rows j h1
      exact ⟨i, k, h2, by omega, h4⟩
    · obtain ⟨i, hi, rfl⟩ := List.mem_map.1 h1
      exact ⟨i, j, List.mem_range.1 hi, by omega, rfl⟩
/-- cells of a row of regions -/
def rgs (l : List Rg) : List Value := l.flatMap rgc
theorem rgs_at : ∀ (l : List Rg) (i : Nat) (t : Rg) (j : Nat) (v : Value), l[i]? = some t → (rgc t)[j]? = some v → (rgs l)[i * 4 + j]? = some v
  | [], i, t, j, v, h, _ => by simp at h
  | u :: l, 0, t, j, v, h, hv => by
    simp at h; subst h
    have hj : j < (rgc u).length := (List.getElem?_eq_some_iff.1 hv).1
    show (rgc u ++ rgs l)[0 * 4 + j]? = _
    rw [List.getElem?_append_left (by omega), show 0 * 4 + j = j by omega]
    exact hv
  | u :: l, i + 1, t, j, v, h, hv => by
    show (rgc u ++ rgs l)[(i + 1) * 4 + j]? = _
    have h4 : (rgc u).length = 4 := rfl
    rw [List.getElem?_append_right (by omega), h4, show (i + 1) * 4 + j - 4 = i * 4 + j by omega]
    exact rgs_at l i t j v (by simpa using h) hv
theorem rgs_append (l : List Rg) (t : Rg) : rgs (l ++ [t]) = rgs l ++ rgc t := by simp [rgs]
/-- A slice of regions that reads so. -/
def RSl (W : World) (A : Option Addr) (l : List Rg) : Prop := 0 < l.length → ∃ b o, A = some ⟨b, o, none⟩ ∧ ∀ i t, l[i]? = some t → ∀ j v, (rgc t)[j]? = some v → W.cell? ((⟨b, o + i * 4, none⟩ : Addr).add j) = some v
theorem RSl.own {W w : World} {H : HL} {A : Option Addr} {l : List Rg} (h : RSl W A l) (ho : Own W w H) : RSl w A l := fun hn => by
  obtain ⟨b, o, h1, h2⟩ := h hn
  exact ⟨b, o, h1, fun i t hi j v hj => ho.old (h2 i t hi j v hj)⟩
theorem RSl.blk {W w : World} {H : HL} {g : Nat} {t : TypeId} {l : List Rg} {junk : List Value} (ho : Own W w H) (hm : (⟨g, t, rgs l ++ junk⟩ : B) ∈ H) : RSl w (some ⟨g, 0, none⟩) l := fun _ => by
  refine ⟨g, 0, rfl, fun i u hi j v hj => ?_⟩
  rw [addr_add, (ho.blk _ hm).2.cell]
  have h1 := rgs_at l i u j v hi hj
  have h2 : i * 4 + j < (rgs l).length := (List.getElem?_eq_some_iff.1 h1).1
  rw [Nat.zero_add, List.getElem?_append_left h2]
  exact h1
theorem tmod_bd {a : Int} {s : Nat} (h : 1 ≤ s) : -(s : Int) < a.tmod (s : Int) ∧ a.tmod (s : Int) < (s : Int) := by
  rw [Int.tmod_eq_emod]
  have h1 := Int.emod_nonneg a (b := (s : Int)) (by omega)
  have h2 := Int.emod_lt_of_pos a (b := (s : Int)) (by omega)
  split <;> omega
theorem cntI_le {X : Int} {w s : Nat} (h : 1 ≤ s) : cntI X w s ≤ w + 1 := by
  rcases Nat.lt_or_ge (w + 1) (cntI X w s) with h1 | h1
  · have h2 := (cntI_iff h).1 h1
    have h3 := (px_eq (X := X) h).2
    have h4 : 1 * w ≤ s * w := Nat.mul_le_mul_right w h
    have h5 : s * (w + 1) = s * w + s := Nat.mul_succ s w
    omega
  · exact h1
theorem si_bd {X : Int} {w s i : Nat} (h : 1 ≤ s) (hi : i ≤ cntI X w s) : s * i < px X s + w + s + 1 := by
  cases i with
  | zero => simp
  | succ i =>
    have h2 := (cntI_iff h).1 (show i < cntI X w s by omega)
    have h5 : s * (i + 1) = s * i + s := Nat.mul_succ s i
    omega
theorem rowsL_len (X Y : Int) (w h s : Nat) : ∀ j, (rowsL X Y w h s j).length = j * cntI X w s
  | 0 => by simp [rowsL]
  | j + 1 => by
    show (rowsL X Y w h s j ++ _).length = _
    rw [List.length_append, rowsL_len X Y w h s j, List.length_map, List.length_range, Nat.succ_mul]
theorem tilesL_len {X Y : Int} {w h s j i : Nat} (hs : 1 ≤ s) (hw : w ≤ 256) (hh : h ≤ 256) (hj : j ≤ cntI Y h s) (hi : i ≤ cntI X w s) : (tilesL X Y w h s j i).length ≤ 70000 := by
  have h1 := cntI_le (X := X) (w := w) hs
  have h2 := cntI_le (X := Y) (w := h) hs
  have h3 : j * cntI X w s ≤ 257 * 257 := Nat.mul_le_mul (by omega) (by omega)
  unfold tilesL
  rw [List.length_append, rowsL_len, List.length_map, List.length_range]
  omega
/-! what two regions have in common -/
def cmw (a b c d : Int) : Int := min (a + c) (b + d) - max a b
def cmB (ax ay aw ah bx bz bw bh : Int) : Bool := decide (1 ≤ cmw ax bx aw bw) && decide (1 ≤ cmw ay bz ah bh)
def cmT (ax ay aw ah bx bz bw bh : Int) : Rg := if cmB ax ay aw ah bx bz bw bh = true then (max ax bx, max ay bz, cmw ax bx aw bw, cmw ay bz ah bh) else (0, 0, 0, 0)
section
variable {ax ay aw ah bx bz bw bh : Int}
theorem cm_w (h : min (ax + aw) (bx + bw) - max ax bx < 1) : cmB ax ay aw ah bx bz bw bh = false ∧ cmT ax ay aw ah bx bz bw bh = (0, 0, 0, 0) := by
  have hB : cmB ax ay aw ah bx bz bw bh = false := by unfold cmB cmw; rw [decide_eq_false (by omega)]; rfl
  exact ⟨hB, if_neg (by rw [hB]; decide)⟩
theorem cm_h (h : min (ay + ah) (bz + bh) - max ay bz < 1) : cmB ax ay aw ah bx bz bw bh = false ∧ cmT ax ay aw ah bx bz bw bh = (0, 0, 0, 0) := by
  have hB : cmB ax ay aw ah bx bz bw bh = false := by unfold cmB cmw; rw [decide_eq_false (p := 1 ≤ min (ay + ah) (bz + bh) - max ay bz) (by omega), Bool.and_false]
  exact ⟨hB, if_neg (by rw [hB]; decide)⟩
theorem cm_ok (h : ¬ min (ax + aw) (bx + bw) - max ax bx < 1) (h2 : ¬ min (ay + ah) (bz + bh) - max ay bz < 1) : cmB ax ay aw ah bx bz bw bh = true ∧ cmT ax ay aw ah bx bz bw bh = (max ax bx, max ay bz, cmw ax bx aw bw, cmw ay bz ah bh) := by
  have hB : cmB ax ay aw ah bx bz bw bh = true := by unfold cmB cmw; rw [decide_eq_true (by omega), decide_eq_true (by omega)]; rfl
  exact ⟨hB, if_pos hB⟩
end
theorem cm_tile {X Y : Int} {w h s i j : Nat} (hs : 1 ≤ s) (hw : 1 ≤ w) (hh : 1 ≤ h) (hi : i < cntI X w s) (hj : j < cntI Y h s) :
    cmB X Y w h (X - (px X s : Nat) + ((s * i : Nat) : Int)) (Y - (px Y s : Nat) + ((s * j : Nat) : Int)) s s = true ∧ cmT X Y w h (X - (px X s : Nat) + ((s * i : Nat) : Int)) (Y - (px Y s : Nat) + ((s * j : Nat) : Int)) s s = tile X Y w h s i j := by
  have h1 := tw_pos (X := X) hs hw hi
  have h2 := tw_pos (X := Y) hs hh hj
  unfold tw tb at h1 h2
  exact cm_ok (by omega) (by omega)
/-! a region grown -/
def gErr (x y w h n e1 e2 : Int) : Int := if e1 ≠ 0 then e1 else if n < -256 ∨ 256 < n then 3 else e2
def gT (x y w h n e : Int) : Rg := if e = 0 then (x - n, y - n, w + 2 * n, h + 2 * n) else (0, 0, 0, 0)
end Go.Proofs.Ytdfbeigjinhgiaa

namespace Go.Proofs.Ytdfbeigjinhgiaa
open Go Go.RowKit

def mixL (N : Nat) (P : Nat → Bool) (f : Nat → Nat) (ys : List Nat) : List Nat := (List.range N).map fun i => if P i then f i else ys.getD i 0
theorem mixL_len (N : Nat) (P : Nat → Bool) (f : Nat → Nat) (ys : List Nat) : (mixL N P f ys).length = N := by simp [mixL]
theorem mixL_congr {N : Nat} {P P' : Nat → Bool} {f : Nat → Nat} {ys : List Nat} (h : ∀ i, i < N → P i = P' i) : mixL N P f ys = mixL N P' f ys := by
  unfold mixL
  apply List.map_congr_left
  intro i hi
  simp only [h i (List.mem_range.1 hi)]
theorem mixL_none {N : Nat} {P : Nat → Bool} {f : Nat → Nat} {ys : List Nat} (hl : ys.length = N) (h : ∀ i, i < N → P i = false) : mixL N P f ys = ys := by
  unfold mixL
  apply List.ext_getElem
  · simp [hl]
  · intro i h1 h2
    simp only [List.getElem_map, List.getElem_range]
    rw [h i (by omega)]
    simp [List.getD, h2]
theorem mixL_set {N n x : Nat} {P : Nat → Bool} {f : Nat → Nat} {ys : List Nat} (hx : x = f n) : ((mixL N P f ys).map flt).set n (flt x) = (mixL N (fun i => P i || i == n) f ys).map flt := by
  subst hx
  apply List.ext_getElem
  · simp [mixL]
  · intro i h1 h2
    have hi : i < N := by simpa [mixL] using h2
    rw [List.getElem_set]
    split
    · rename_i he; subst he; simp [mixL]
    · rename_i he
      have h3 : ¬ i = n := fun h => he h.symm
      simp [mixL, h3]
/-- the i-th number stands in a rectangle of pixels (columns p .. p + w, rows q .. q + j), or is one of the first k of its row q + j -/
def inP (a p w q j k : Nat) (i : Nat) : Bool := decide ((q ≤ i / 4 / a ∧ i / 4 / a < q + j ∧ p ≤ i / 4 % a ∧ i / 4 % a < p + w) ∨ (i / 4 / a = q + j ∧ p ≤ i / 4 % a ∧ 4 * (i / 4 % a) + i % 4 < 4 * p + k))
theorem inP_zero (a p w q : Nat) (i : Nat) : inP a p w q 0 0 i = false := by
  unfold inP
  rw [decide_eq_false]
  omega
theorem inP_row {a p w q j : Nat} (i : Nat) : inP a p w q j (4 * w) i = inP a p w q (j + 1) 0 i := by
  unfold inP
  congr 1
  apply propext
  have := Nat.mod_lt i (show 0 < 4 by omega)
  omega
theorem pos_of {a i : Nat} (ha : 0 < a) : i = 4 * (a * (i / 4 / a) + i / 4 % a) + i % 4 ∧ i / 4 % a < a ∧ i % 4 < 4 := ⟨by
  have h1 := Nat.div_add_mod (i / 4) a
  have h2 := Nat.div_add_mod i 4
  rw [h1]; omega, Nat.mod_lt _ ha, Nat.mod_lt _ (by omega)⟩
theorem place_of {a c r x : Nat} (hc : c < a) (hx : x < 4) : (4 * (a * r + c) + x) / 4 / a = r ∧ (4 * (a * r + c) + x) / 4 % a = c ∧ (4 * (a * r + c) + x) % 4 = x := by
  have h1 : (4 * (a * r + c) + x) / 4 = a * r + c := by omega
  rw [h1, Nat.mul_add_mod, Nat.mod_eq_of_lt hc, Nat.mul_add_div (by omega), Nat.div_eq_of_lt hc]
  omega
theorem inP_step {a p w q j k : Nat} (hp : p + w ≤ a) (hk : k < 4 * w) (i : Nat) : (inP a p w q j k i || i == 4 * (a * (q + j) + (p + k / 4)) + k % 4) = inP a p w q j (k + 1) i := by
  have ha : 0 < a := by omega
  have hk4 : p + k / 4 < a := by omega
  have hkm : k % 4 < 4 := by omega
  have hn := place_of (a := a) (c := p + k / 4) (r := q + j) (x := k % 4) hk4 hkm
  have hi := pos_of (i := i) ha
  have key : (i == 4 * (a * (q + j) + (p + k / 4)) + k % 4) = decide (i / 4 / a = q + j ∧ i / 4 % a = p + k / 4 ∧ i % 4 = k % 4) := by
    rw [Bool.eq_iff_iff, beq_iff_eq, decide_eq_true_eq]
    refine ⟨fun h => ?_, fun h => ?_⟩
    · subst h; exact hn
    · rw [hi.1, h.1, h.2.1, h.2.2]
  rw [key]
  unfold inP
  rw [Bool.eq_iff_iff, Bool.or_eq_true, decide_eq_true_eq, decide_eq_true_eq, decide_eq_true_eq]
  omega
/-- is a pixel in a region -/
def atB (x y X Y W H : Int) : Bool := decide (X ≤ x ∧ Y ≤ y ∧ x ≤ X + W - 1 ∧ y ≤ Y + H - 1)
/-- what is common, by columns and rows of the first frame -/
theorem inP_all {X Y X2 Y2 : Int} {a b a2 b2 p q w h i : Nat} (hi : i < 4 * (a * b)) (hp : max X X2 = X + p) (hq : max Y Y2 = Y + q) (hw : min (X + a) (X2 + a2) = X + p + w) (hh : min (Y + b) (Y2 + b2) = Y + q + h) :
    inP a p w q h 0 i = atB (X + ((i / 4 % a : Nat) : Int)) (Y + ((i / 4 / a : Nat) : Int)) X2 Y2 a2 b2 := by
  have ha : 0 < a := by
    rcases Nat.eq_zero_or_pos a with h0 | h0
    · subst h0; simp at hi
    · exact h0
  have h1 : i / 4 / a < b := by rw [Nat.div_lt_iff_lt_mul ha, Nat.mul_comm]; omega
  have h2 : i / 4 % a < a := Nat.mod_lt _ ha
  unfold inP atB
  congr 1
  apply propext
  generalize i / 4 / a = r at *
  generalize i / 4 % a = c at *
  omega
/-- the frame with another one laid over it -/
def overV (ys zs : List Nat) (X Y : Int) (a b : Nat) (X2 Y2 : Int) (a2 b2 : Nat) : List Nat :=
  mixL (4 * (a * b)) (fun i => atB (X + ((i / 4 % a : Nat) : Int)) (Y + ((i / 4 / a : Nat) : Int)) X2 Y2 a2 b2) (madeF (pixF zs X2 Y2 a2 b2) X Y a) ys
theorem overV_apart {ys zs : List Nat} {X Y X2 Y2 : Int} {a b a2 b2 : Nat} (hl : ys.length = 4 * (a * b)) (h : min (X + a) (X2 + a2) - max X X2 < 1 ∨ min (Y + b) (Y2 + b2) - max Y Y2 < 1) : overV ys zs X Y a b X2 Y2 a2 b2 = ys := by
  refine mixL_none hl fun i hi => ?_
  have ha : 0 < a := by
    rcases Nat.eq_zero_or_pos a with h0 | h0
    · subst h0; simp at hi
    · exact h0
  have h1 : i / 4 / a < b := by rw [Nat.div_lt_iff_lt_mul ha, Nat.mul_comm]; omega
  have h2 : i / 4 % a < a := Nat.mod_lt _ ha
  unfold atB
  apply decide_eq_false
  generalize i / 4 / a = r at *
  generalize i / 4 % a = c at *
  omega
/-- a pixel pasted -/
def pasteF (xs zs : List Nat) (X Y : Int) (a b : Nat) (X2 Y2 : Int) (a2 b2 : Nat) (x y : Int) (c : Nat) : Nat := if atB x y X2 Y2 a2 b2 then pixF zs X2 Y2 a2 b2 x y c else pixF xs X Y a b x y c
theorem overV_cut {ys zs : List Nat} {X Y X2 Y2 : Int} {a b a2 b2 : Nat} (h1 : X2 ≤ X) (h2 : Y2 ≤ Y) (h3 : X + a ≤ X2 + a2) (h4 : Y + b ≤ Y2 + b2) : overV ys zs X Y a b X2 Y2 a2 b2 = madeV (pixF zs X2 Y2 a2 b2) X Y a (4 * (a * b)) := by
  unfold overV mixL madeV
  apply List.map_congr_left
  intro i hi
  have hi := List.mem_range.1 hi
  have ha : 0 < a := by
    rcases Nat.eq_zero_or_pos a with h0 | h0
    · subst h0; simp at hi
    · exact h0
  have h5 : i / 4 / a < b := by rw [Nat.div_lt_iff_lt_mul ha, Nat.mul_comm]; omega
  have h6 : i / 4 % a < a := Nat.mod_lt _ ha
  refine if_pos ?_
  show atB _ _ _ _ _ _ = true
  unfold atB
  apply decide_eq_true
  generalize i / 4 / a = r at *
  generalize i / 4 % a = c at *
  omega
theorem over_at {zs : List Nat} {X Y X2 Y2 : Int} {a a2 b2 p q p2 q2 w j k o1 o2 : Nat} (h1 : o1 = 4 * (a * (q + j) + p)) (h2 : o2 = 4 * (a2 * (q2 + j) + p2)) (hx : X + p = X2 + p2) (hy : Y + q = Y2 + q2) (hk : k < 4 * w) (hp : p + w ≤ a) (hp2 : p2 + w ≤ a2) (hj : q2 + j < b2) :
    cl (zs.getD (o2 + k) 0) = madeF (pixF zs X2 Y2 a2 b2) X Y a (o1 + k) := by
  have e1 : o1 + k = 4 * (a * (q + j) + (p + k / 4)) + k % 4 := by omega
  have e2 : o2 + k = 4 * ((q2 + j) * a2 + (p2 + k / 4)) + k % 4 := by rw [h2, Nat.mul_comm a2]; omega
  rw [e1, madeF_at (by omega) (by omega), e2]
  have e3 : X + ((p + k / 4 : Nat) : Int) = X2 + ((p2 + k / 4 : Nat) : Int) := by omega
  have e4 : Y + ((q + j : Nat) : Int) = Y2 + ((q2 + j : Nat) : Int) := by omega
  rw [e3, e4, pixF_at (near_in (by omega) (by omega)) (near_in (by omega) (by omega))]
theorem over_done {ys zs : List Nat} {X Y X2 Y2 : Int} {a b a2 b2 p q w h : Nat} (hp : max X X2 = X + p) (hq : max Y Y2 = Y + q) (hw : min (X + a) (X2 + a2) = X + p + w) (hh : min (Y + b) (Y2 + b2) = Y + q + h) :
    mixL (4 * (a * b)) (inP a p w q h 0) (madeF (pixF zs X2 Y2 a2 b2) X Y a) ys = overV ys zs X Y a b X2 Y2 a2 b2 := mixL_congr fun _ hi => inP_all hi hp hq hw hh
theorem over_row (N a p w q j : Nat) (f : Nat → Nat) (ys : List Nat) : mixL N (inP a p w q (j + 1) 0) f ys = mixL N (inP a p w q j (4 * w)) f ys := mixL_congr fun i _ => (inP_row i).symm
theorem over_set {N a p w q j k o x : Nat} {f : Nat → Nat} {ys : List Nat} (ho : o = 4 * (a * (q + j) + p)) (hp : p + w ≤ a) (hk : k < 4 * w) (hx : x = f (o + k)) :
    ((mixL N (inP a p w q j k) f ys).map flt).set (o + k) (flt x) = (mixL N (inP a p w q j (k + 1)) f ys).map flt := by
  rw [mixL_set hx]
  congr 1
  refine mixL_congr fun i _ => ?_
  rw [← inP_step hp hk i, show o + k = 4 * (a * (q + j) + (p + k / 4)) + k % 4 by omega]
theorem over_zero {N a p w q : Nat} {f : Nat → Nat} {ys : List Nat} (hl : ys.length = N) : mixL N (inP a p w q 0 0) f ys = ys := mixL_none hl fun i _ => inP_zero a p w q i
/-- where two frames meet -/
structure Meets (X Y : Int) (a b : Nat) (X2 Y2 : Int) (a2 b2 : Nat) (p q p2 q2 w h : Nat) : Prop where
  x : X + p = X2 + p2
  y : Y + q = Y2 + q2
  w1 : 1 ≤ w
  h1 : 1 ≤ h
  pa : p + w ≤ a
  pa2 : p2 + w ≤ a2
  qb : q + h ≤ b
  qb2 : q2 + h ≤ b2
  mx : max X X2 = X + p
  my : max Y Y2 = Y + q
  mw : min (X + a) (X2 + a2) = X + p + w
  mh : min (Y + b) (Y2 + b2) = Y + q + h
theorem meets {X Y X2 Y2 : Int} {a b a2 b2 : Nat} (h : cmB X Y a b X2 Y2 a2 b2 = true) : ∃ p q p2 q2 w h : Nat, cmT X Y a b X2 Y2 a2 b2 = (X + p, Y + q, (w : Int), (h : Int)) ∧ Meets X Y a b X2 Y2 a2 b2 p q p2 q2 w h := by
  have h0 := h
  unfold cmB at h0
  simp only [Bool.and_eq_true, decide_eq_true_eq] at h0
  unfold cmT
  rw [if_pos h]
  unfold cmw at h0 ⊢
  refine ⟨(max X X2 - X).toNat, (max Y Y2 - Y).toNat, (max X X2 - X2).toNat, (max Y Y2 - Y2).toNat, (min (X + a) (X2 + a2) - max X X2).toNat, (min (Y + b) (Y2 + b2) - max Y Y2).toNat, ?_, ?_⟩
  · simp only [Prod.mk.injEq]; omega
  · constructor <;> omega
theorem apart {X Y X2 Y2 : Int} {a b a2 b2 : Nat} (h : cmB X Y a b X2 Y2 a2 b2 = false) : min (X + a) (X2 + a2) - max X X2 < 1 ∨ min (Y + b) (Y2 + b2) - max Y Y2 < 1 := by
  unfold cmB at h
  rw [Bool.and_eq_false_iff, decide_eq_false_iff_not, decide_eq_false_iff_not] at h
  unfold cmw at h
  omega
end Go.Proofs.Ytdfbeigjinhgiaa

namespace Go.Proofs.Ytdfbeigjinhgiaa
open Go

/-- pixel (u, v) in region t -/
def inT (u v : Int) (t : Rg) : Bool := atB u v t.1 t.2.1 t.2.2.1 t.2.2.2
theorem inT_tile {X Y u v : Int} {w h s i j : Nat} : inT u v (tile X Y w h s i j) = (decide (tb X s i ≤ u ∧ u ≤ tb X s i + tw X w s i - 1) && decide (tb Y s j ≤ v ∧ v ≤ tb Y s j + tw Y h s j - 1)) := by
  unfold inT atB tile
  rw [Bool.eq_iff_iff, Bool.and_eq_true, decide_eq_true_eq, decide_eq_true_eq, decide_eq_true_eq]
  constructor
  · rintro ⟨h1, h2, h3, h4⟩; exact ⟨⟨h1, h3⟩, ⟨h2, h4⟩⟩
  · rintro ⟨⟨h1, h3⟩, ⟨h2, h4⟩⟩; exact ⟨h1, h2, h3, h4⟩
theorem tb_cov {X : Int} {w s i : Nat} (h : 1 ≤ s) (hi : i < cntI X w s) : tb X s i = X + cov X w s i := by
  have h1 := (cntI_iff h).1 hi
  have h2 := (px_eq (X := X) h).2
  unfold tb cov
  omega
theorem cov_mono {X : Int} {w s i : Nat} (h : 1 ≤ s) (hw : 1 ≤ w) (hi : i < cntI X w s) : cov X w s i < cov X w s (i + 1) := by
  have := cov_succ h hi
  have := tw_pos h hw hi
  omega
/-- one line: how many of the first m tiles have u -/
theorem line_cnt {X u : Int} {w s : Nat} (h : 1 ≤ s) (hw : 1 ≤ w) (hu : X ≤ u) : ∀ m, m ≤ cntI X w s →
    (List.range m).countP (fun i => decide (tb X s i ≤ u ∧ u ≤ tb X s i + tw X w s i - 1)) = if u < X + cov X w s m then 1 else 0
  | 0, _ => by
    rw [cov_zero]
    simp only [List.range_zero, List.countP_nil]
    rw [if_neg (by omega)]
  | m + 1, hm => by
    have ih := line_cnt h hw hu m (by omega)
    have h1 := tb_cov h (show m < cntI X w s by omega)
    have h2 := cov_succ h (show m < cntI X w s by omega)
    have h3 := cov_mono h hw (show m < cntI X w s by omega)
    rw [List.range_succ, List.countP_append, ih, List.countP_cons, List.countP_nil]
    by_cases q1 : u < X + cov X w s m
    · have hd : decide (tb X s m ≤ u ∧ u ≤ tb X s m + tw X w s m - 1) = false := decide_eq_false (by omega)
      rw [if_pos q1, hd, if_pos (c := u < X + cov X w s (m + 1)) (by omega)]; rfl
    · rw [if_neg q1]
      by_cases q2 : u < X + cov X w s (m + 1)
      · have hd : decide (tb X s m ≤ u ∧ u ≤ tb X s m + tw X w s m - 1) = true := decide_eq_true (by omega)
        rw [if_pos q2, hd]; rfl
      · have hd : decide (tb X s m ≤ u ∧ u ≤ tb X s m + tw X w s m - 1) = false := decide_eq_false (by omega)
        rw [if_neg q2, hd]; rfl
theorem line_one {X u : Int} {w s : Nat} (h : 1 ≤ s) (hw : 1 ≤ w) (hu : X ≤ u) (hu2 : u < X + w) : (List.range (cntI X w s)).countP (fun i => decide (tb X s i ≤ u ∧ u ≤ tb X s i + tw X w s i - 1)) = 1 := by
  rw [line_cnt h hw hu _ (Nat.le_refl _), cov_end h (Nat.lt_irrefl _), if_pos hu2]
theorem countP_and {α : Type} (p : α → Bool) (b : Bool) : ∀ l : List α, l.countP (fun i => p i && b) = if b then l.countP p else 0 := by
  intro l
  cases b
  · simp
  · simp
theorem rows_cnt {X Y u v : Int} {w h s : Nat} (hs : 1 ≤ s) (hw : 1 ≤ w) (hh : 1 ≤ h) (hu : X ≤ u) (hu2 : u < X + w) (hv : Y ≤ v) : ∀ m, m ≤ cntI Y h s →
    (rowsL X Y w h s m).countP (inT u v) = if v < Y + cov Y h s m then 1 else 0
  | 0, _ => by
    rw [cov_zero]
    simp only [rowsL, List.countP_nil]
    rw [if_neg (by omega)]
  | m + 1, hm => by
    have ih := rows_cnt hs hw hh hu hu2 hv m (by omega)
    have h1 := tb_cov hs (show m < cntI Y h s by omega)
    have h2 := cov_succ hs (show m < cntI Y h s by omega)
    have h3 := cov_mono hs hh (show m < cntI Y h s by omega)
    have h4 : ((List.range (cntI X w s)).map (tile X Y w h s · m)).countP (inT u v) = if decide (tb Y s m ≤ v ∧ v ≤ tb Y s m + tw Y h s m - 1) then 1 else 0 := by
      rw [List.countP_map]
      have : (inT u v ∘ fun i => tile X Y w h s i m) = fun i => decide (tb X s i ≤ u ∧ u ≤ tb X s i + tw X w s i - 1) && decide (tb Y s m ≤ v ∧ v ≤ tb Y s m + tw Y h s m - 1) := by
        funext i
        exact inT_tile
      rw [this, countP_and, line_one hs hw hu hu2]
    show (rowsL X Y w h s m ++ (List.range (cntI X w s)).map (tile X Y w h s · m)).countP (inT u v) = _
    rw [List.countP_append, ih, h4]
    by_cases q1 : v < Y + cov Y h s m
    · have hd : decide (tb Y s m ≤ v ∧ v ≤ tb Y s m + tw Y h s m - 1) = false := decide_eq_false (by omega)
      rw [if_pos q1, hd, if_pos (c := v < Y + cov Y h s (m + 1)) (by omega)]; rfl
    · rw [if_neg q1]
      by_cases q2 : v < Y + cov Y h s (m + 1)
      · have hd : decide (tb Y s m ≤ v ∧ v ≤ tb Y s m + tw Y h s m - 1) = true := decide_eq_true (by omega)
        rw [if_pos q2, hd]; rfl
      · have hd : decide (tb Y s m ≤ v ∧ v ≤ tb Y s m + tw Y h s m - 1) = false := decide_eq_false (by omega)
        rw [if_neg q2, hd]; rfl
/-- each pixel is in one tile -/
theorem tiles_once {X Y u v : Int} {w h s : Nat} (hs : 1 ≤ s) (hw : 1 ≤ w) (hh : 1 ≤ h) (hu : X ≤ u) (hu2 : u < X + w) (hv : Y ≤ v) (hv2 : v < Y + h) : (rowsL X Y w h s (cntI Y h s)).countP (inT u v) = 1 := by
  rw [rows_cnt hs hw hh hu hu2 hv _ (Nat.le_refl _), cov_end hs (Nat.lt_irrefl _), if_pos hv2]
/-- what a tile is -/
theorem tile_in {X Y : Int} {w h s : Nat} {t : Rg} (hs : 1 ≤ s) (hw : 1 ≤ w) (hh : 1 ≤ h) (ht : t ∈ rowsL X Y w h s (cntI Y h s)) :
    X ≤ t.1 ∧ Y ≤ t.2.1 ∧ 1 ≤ t.2.2.1 ∧ 1 ≤ t.2.2.2 ∧ t.1 + t.2.2.1 ≤ X + w ∧ t.2.1 + t.2.2.2 ≤ Y + h := by
  obtain ⟨i, j, hi, hj, rfl⟩ := mem_rows _ ht
  have h1 := tw_pos hs hw hi
  have h2 := tw_pos hs hh hj
  have h3 := tb_cov hs hi
  have h4 := tb_cov hs hj
  have h5 := cov_succ hs hi
  have h6 := cov_succ hs hj
  have h7 := cov_bd X w s (i + 1)
  have h8 := cov_bd Y h s (j + 1)
  have h9 := cov_bd X w s i
  have h10 := cov_bd Y h s j
  simp only [tile]
  omega
/-- counted -/
def cntC (c : Nat → Bool) (N : Nat) : Nat := (List.range N).countP c
theorem cntC_le (c : Nat → Bool) (N : Nat) : cntC c N ≤ N := by
  unfold cntC
  have := List.countP_le_length (p := c) (l := List.range N)
  simpa using this
theorem cntC_all {c : Nat → Bool} {N : Nat} : cntC c N = N ↔ ∀ k, k < N → c k = true := by
  unfold cntC
  have := List.countP_eq_length (p := c) (l := List.range N)
  rw [List.length_range] at this
  rw [this]
  exact ⟨fun h k hk => h k (List.mem_range.2 hk), fun h k hk => h k (List.mem_range.1 hk)⟩
theorem cntC_zero (N : Nat) : cntC (fun _ => false) N = 0 := by
  unfold cntC; simp
/-- one more -/
theorem cntC_add {c d : Nat → Bool} {k0 : Nat} (hc : c k0 = false) (hd : ∀ k, d k = (c k || k == k0)) : ∀ N, cntC d N = cntC c N + if k0 < N then 1 else 0
  | 0 => by simp [cntC]
  | N + 1 => by
    have ih := cntC_add hc hd N
    unfold cntC at ih ⊢
    rw [List.range_succ, List.countP_append, List.countP_append, ih, List.countP_cons, List.countP_nil, List.countP_cons, List.countP_nil, hd N]
    by_cases h1 : k0 = N
    · subst h1
      rw [hc, if_neg (Nat.lt_irrefl _)]
      simp
    · have h2 : (N == k0) = false := by simp; omega
      rw [h2, Bool.or_false]
      by_cases h3 : k0 < N
      · rw [if_pos h3, if_pos (c := k0 < N + 1) (by omega)]; omega
      · rw [if_neg h3, if_neg (c := k0 < N + 1) (by omega)]; omega
end Go.Proofs.Ytdfbeigjinhgiaa
