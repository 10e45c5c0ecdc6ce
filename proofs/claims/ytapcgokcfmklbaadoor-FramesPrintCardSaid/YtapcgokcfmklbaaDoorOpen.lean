/-
  Opening arguments: a value that reads at a type is the row of its leaves; leaves are integers, floats, truths, strings or slices. Conditions: none.
-/
import Derived.Test.YtapcgokcfmklbaaDoorSpec
import Derived.ChangeArms
import Derived.Deep.Slices
import Derived.OpenShut
import Derived.WideShapes
namespace Go.Proofs.YtapcgokcfmklbaaDoor
open Go Go.RowKit Go.WideShapes

def All2 {α β : Type} (R : α → β → Prop) : List α → List β → Prop
  | [], [] => True
  | a :: as, b :: bs => R a b ∧ All2 R as bs
  | _, _ => False
theorem All2.append {α β : Type} {R : α → β → Prop} : ∀ {a : List α} {b : List β} {a' : List α} {b' : List β}, All2 R a b → All2 R a' b' → All2 R (a ++ a') (b ++ b')
  | [], [], _, _, _, h => h
  | _ :: _, _ :: _, _, _, h, h' => ⟨h.1, h.2.append h'⟩
theorem All2.len {α β : Type} {R : α → β → Prop} : ∀ {a : List α} {b : List β}, All2 R a b → a.length = b.length
  | [], [], _ => rfl
  | _ :: _, _ :: _, h => by simp [All2.len h.2]
theorem All2.cons_inv {α β : Type} {R : α → β → Prop} {a : α} {as : List α} : ∀ {cs : List β}, All2 R (a :: as) cs → ∃ c cs', cs = c :: cs' ∧ R a c ∧ All2 R as cs'
  | [], h => h.elim
  | c :: cs', h => ⟨c, cs', rfl, h.1, h.2⟩
theorem All2.nil_inv {α β : Type} {R : α → β → Prop} : ∀ {cs : List β}, All2 R ([] : List α) cs → cs = []
  | [], _ => rfl
  | _ :: _, h => h.elim
theorem All2.imp {α β : Type} {R S : α → β → Prop} (f : ∀ a b, R a b → S a b) : ∀ {a : List α} {b : List β}, All2 R a b → All2 S a b
  | [], [], _ => trivial
  | _ :: _, _ :: _, h => ⟨f _ _ h.1, All2.imp f h.2⟩

/-- Four things by their number. -/
def f4 {α : Type} (a b c d : α) : Nat → α
  | 0 => a
  | 1 => b
  | 2 => c
  | _ => d
theorem all4 {p : Nat → Prop} (h0 : p 0) (h1 : p 1) (h2 : p 2) (h3 : p 3) : ∀ k, k < 4 → p k
  | 0, _ => h0
  | 1, _ => h1
  | 2, _ => h2
  | 3, _ => h3
def leavesF (g : TypeId → Option (List TypeId)) : Nat → List Field → Option (List TypeId)
  | _, [] => some []
  | off, f :: fs => if f.offset = off then (g f.type).bind fun a => (leavesF g (off + a.length) fs).map (a ++ ·) else none
def leaves (P : Program) : Nat → TypeId → Option (List TypeId)
  | 0, _ => none
  | n + 1, t => match P.underlying t with
    | some (.struct fs) => (leavesF (leaves P n) 0 fs.toList).bind fun ls => if ls.length = P.cellsOf t then some ls else none
    | some (.array m e) => (leaves P n e).bind fun a => if a.length = P.cellsOf e ∧ m * a.length = P.cellsOf t then some (List.replicate m a).flatten else none
    | _ => some [t]

section
variable {H : Type} {enc : TypeId × Value → H} {P : Program} {w : World} {base : Nat} {spare : Nat → Bool} {held : Bool}
/-- A leaf that reads. -/
def Leaf (enc : TypeId × Value → H) (P : Program) (w : World) (base : Nat) (spare : Nat → Bool) (held : Bool) (l : TypeId) (c : Value) : Prop := ∃ fuel x, DataW.trod enc P w base spare held fuel l [c] = some x

theorem leavesF_trod {g : TypeId → Option (List TypeId)} {fuel : Nat} (hg : ∀ t ls cs x, g t = some ls → DataW.trod enc P w base spare held fuel t cs = some x → All2 (Leaf enc P w base spare held) ls cs)
    (cs : List Value) : ∀ (fs : List Field) (off : Nat) (ls : List TypeId), leavesF g off fs = some ls → (∀ f ∈ fs, ∃ x, DataW.trod enc P w base spare held fuel f.type ((cs.drop f.offset).take (P.cellsOf f.type)) = some x) →
      All2 (Leaf enc P w base spare held) ls ((cs.drop off).take ls.length)
  | [], off, ls, h, _ => by
    simp [leavesF] at h; subst h; simp [All2]
  | f :: fs, off, ls, h, hx => by
    unfold leavesF at h
    split at h
    · rename_i ho
      obtain ⟨a, ha, h⟩ := Option.bind_eq_some_iff.1 h
      obtain ⟨r, hr, rfl⟩ := Option.map_eq_some_iff.1 h
      obtain ⟨x, h1⟩ := hx f (by simp)
      have h2 := hg _ _ _ _ ha h1
      have h3 := h2.len
      have h4 := leavesF_trod hg cs fs _ r hr (fun f' hf => hx f' (by simp [hf]))
      have h5 : (cs.drop f.offset).take (P.cellsOf f.type) = (cs.drop off).take a.length := by
        rw [ho]
        rw [ho] at h3
        rw [List.length_take] at h3
        rw [h3]
        exact List.take_eq_take_min
      rw [h5] at h2
      have h6 : (cs.drop off).take (a ++ r).length = (cs.drop off).take a.length ++ (cs.drop (off + a.length)).take r.length := by
        rw [List.length_append, List.take_add, List.drop_drop]
      rw [h6]
      exact h2.append h4
    · cases h

theorem All2.flat {α β : Type} {R : α → β → Prop} {a : List α} (cs : List β) : ∀ (m : Nat), (∀ i, i < m → All2 R a ((cs.drop (i * a.length)).take a.length)) → All2 R (List.replicate m a).flatten (cs.take (m * a.length))
  | 0, _ => by simp [All2]
  | m + 1, h => by
    rw [List.replicate_succ', List.flatten_append, Nat.succ_mul, List.take_add]
    refine (All2.flat cs m fun i hi => h i (by omega)).append ?_
    simpa using h m (by omega)

/-- A VALUE THAT READS IS THE ROW OF ITS LEAVES. -/
theorem leaves_trod : ∀ (n : Nat) {fuel : Nat} {t : TypeId} {ls : List TypeId} {cs : List Value} {x : DataW H × List MemPlace}, leaves P n t = some ls → DataW.trod enc P w base spare held fuel t cs = some x → All2 (Leaf enc P w base spare held) ls cs
  | 0, _, _, _, _, _, h, _ => by simp [leaves] at h
  | n + 1, fuel, t, ls, cs, x, h, hx => by
    unfold leaves at h
    split at h
    · rename_i fs ht
      obtain ⟨ls', h1, h⟩ := Option.bind_eq_some_iff.1 h
      split at h
      · rename_i hl
        injection h with h
        subst h
        obtain ⟨xs, m, rfl, _, hc, hxl, hf⟩ := DataW.trod_struct ht hx
        have := leavesF_trod (fuel := m) (fun t ls cs x a b => leaves_trod n a b) cs fs.toList 0 ls' h1 (fun f hm => by
          obtain ⟨i, hi, he⟩ := List.getElem_of_mem hm
          have h2 := hf i f (by simp at hi; simp [← he, hi])
          have h3 : i < xs.length := by simp at hi; omega
          exact ⟨xs[i], by rw [h2]; simp [h3]⟩)
        rw [hl, ← hc] at this
        simpa using this
      · cases h
    · rename_i m e ht
      obtain ⟨a, h1, h⟩ := Option.bind_eq_some_iff.1 h
      split at h
      · rename_i hl
        injection h with h
        subst h
        obtain ⟨xs, k, rfl, _, hc, hxl, hf⟩ := DataW.trod_array ht hx
        have := All2.flat (R := Leaf enc P w base spare held) (a := a) cs m (fun i hi => by
          have h2 := hf i hi
          have h3 : i < xs.length := by omega
          rw [← hl.1] at h2
          exact leaves_trod n h1 (h2.trans (List.getElem?_eq_getElem h3)))
        rw [hl.2, ← hc] at this
        simpa using this
      · cases h
    · injection h with h
      subst h
      match cs, hx with
      | [c], hx => exact ⟨⟨_, _, hx⟩, trivial⟩
      | [], hx =>
        exfalso
        cases fuel with
        | zero => simp [DataW.trod] at hx
        | succ m => unfold DataW.trod at hx; split at hx <;> simp_all
      | _ :: _ :: _, hx =>
        exfalso
        cases fuel with
        | zero => simp [DataW.trod] at hx
        | succ m => unfold DataW.trod at hx; split at hx <;> simp_all

theorem leaf_of {t : TypeId} {v : Value} {d : DataW H} {p : List MemPlace} (h : DataW.Trod enc P w base spare held t v d p) (hv : v.cells.toList = [v]) : Leaf enc P w base spare held t v := by
  obtain ⟨fuel, hf⟩ := h
  rw [hv] at hf
  exact ⟨fuel, _, hf⟩
theorem open_agg {n : Nat} {t : TypeId} {fs : Array Field} {ls : List TypeId} {W : World} {r : Reach} {b0 : Nat} {v : Value} {d : DataW H} {p : List MemPlace} (ht : P.underlying t = some (.struct fs)) (hl : leaves P n t = some ls)
    (hval : Value.okWide P W r b0 t v) (h : DataW.Trod enc P w base spare held t v d p) : ∃ cs : List Value, v = .agg cs.toArray ∧ All2 (Leaf enc P w base spare held) ls cs := by
  obtain ⟨cs, rfl, _⟩ := okWide_struct ht hval
  obtain ⟨fuel, hf⟩ := h
  exact ⟨cs.toList, rfl, leaves_trod n hl hf⟩
theorem open_arr {n m : Nat} {t e : TypeId} {ls : List TypeId} {W : World} {r : Reach} {b0 : Nat} {v : Value} {d : DataW H} {p : List MemPlace} (ht : P.underlying t = some (.array m e)) (hl : leaves P n t = some ls)
    (hval : Value.okWide P W r b0 t v) (h : DataW.Trod enc P w base spare held t v d p) : ∃ cs : List Value, v = .agg cs.toArray ∧ All2 (Leaf enc P w base spare held) ls cs := by
  simp only [Value.okWide, ht] at hval
  obtain ⟨cs, rfl, _⟩ := hval
  obtain ⟨fuel, hf⟩ := h
  exact ⟨cs.toList, rfl, leaves_trod n hl hf⟩
theorem okWide_float {k : FloatKind} {W : World} {r : Reach} {b0 : Nat} {t : TypeId} {v : Value} (ht : P.underlying t = some (.float k)) (h : Value.okWide P W r b0 t v) : ∃ b, v = .float k b := by
  simp only [Value.okWide, ht, Cell.okWide] at h
  cases v <;> simp_all [Cell.ok]
theorem Leaf.int {l : TypeId} {c : Value} {k : IntKind} (ht : P.underlying l = some (.int k)) (h : Leaf enc P w base spare held l c) : ∃ n, c = .int k n ∧ (Lit.int k n).wf = true := by
  obtain ⟨fuel, x, hx⟩ := h
  obtain ⟨n, h1, _, h3⟩ := DataW.trod_int ht hx
  exact ⟨n, by simpa using h1, h3⟩
theorem Leaf.bool {l : TypeId} {c : Value} (ht : P.underlying l = some .bool) (h : Leaf enc P w base spare held l c) : ∃ b, c = .bool b := by
  obtain ⟨fuel, x, hx⟩ := h
  obtain ⟨n, h1, _⟩ := DataW.trod_bool ht hx
  exact ⟨n, by simpa using h1⟩
theorem Leaf.string {l : TypeId} {c : Value} (ht : P.underlying l = some .string) (h : Leaf enc P w base spare held l c) : ∃ s : ByteArray, c = .string s ∧ s.size ≤ maxLen := by
  obtain ⟨fuel, x, hx⟩ := h
  obtain ⟨n, h1, _, h3⟩ := DataW.trod_string ht hx
  exact ⟨n, by simpa using h1, h3⟩
theorem Leaf.float {l : TypeId} {c : Value} {k : FloatKind} (ht : P.underlying l = some (.float k)) (h : Leaf enc P w base spare held l c) : ∃ n, c = .float k n ∧ (Lit.float k n).wf = true := by
  obtain ⟨fuel, x, hx⟩ := h
  cases fuel with
  | zero => simp [DataW.trod] at hx
  | succ n =>
    unfold DataW.trod at hx
    rw [ht] at hx
    split at hx <;> simp_all
/-- A slice of elements of one cell. -/
theorem Leaf.slice1 {l e : TypeId} {c : Value} (ht : P.underlying l = some (.slice e)) (hc : P.cellsOf e = 1) (h : Leaf enc P w base spare held l c) :
    ∃ (A : Option Addr) (n cap : Nat) (V : Nat → Value), c = .slice A n cap ∧ n ≤ maxLen ∧ ∀ i, i < n → ∃ a, A = some a ∧ w.cell? (a.add i) = some (V i) ∧ Leaf enc P w base spare held e (V i) := by
  obtain ⟨fuel, x, hx⟩ := h
  rcases Go.Deep.open_slice1 ht hc hx with ⟨h1, _⟩ | ⟨a, len, cap, m, n, V, D, Pl, h1, _, h2, h3, h4, _, h5⟩
  · exact ⟨none, 0, 0, fun _ => .nilFunc, by simpa using h1, by simp, fun i hi => by omega⟩
  · refine ⟨some a, len, cap, V, by simpa using h1, by omega, fun i hi => ⟨a, rfl, ?_⟩⟩
    obtain ⟨h6, h7⟩ := h5 i (by rw [h4]; split <;> omega)
    exact ⟨h6, _, _, h7⟩
theorem Leaf.floats {l e : TypeId} {c : Value} (ht : P.underlying l = some (.slice e)) (he : P.underlying e = some (.float .f32)) (hc : P.cellsOf e = 1) (h : Leaf enc P w base spare held l c) :
    ∃ (A : Option Addr) (n cap : Nat) (xs : List Nat), c = .slice A n cap ∧ n ≤ maxLen ∧ xs.length = n ∧ FS w A xs ∧ ∀ x ∈ xs, x < 2 ^ 32 := by
  obtain ⟨A, n, cap, V, rfl, hm, hV⟩ := h.slice1 ht hc
  obtain ⟨F, hF⟩ := Go.Deep.choose_lt (α := Nat) (n := n) (p := fun i b => ∃ a, A = some a ∧ w.cell? (a.add i) = some (flt b) ∧ b < 2 ^ 32) (fun i hi => by
    obtain ⟨a, h1, h2, h3⟩ := hV i hi
    obtain ⟨b, h4, h5⟩ := h3.float he
    exact ⟨b, a, h1, by rw [h2, h4], by simpa [Lit.wf] using h5⟩)
  refine ⟨A, n, cap, (List.range n).map F, rfl, hm, by simp, fun hp => ?_, fun x hx => ?_⟩
  · simp at hp
    obtain ⟨⟨b, o, sp⟩, rfl, h2, _⟩ := hF 0 hp
    have hsp : sp = none := by simpa [Addr.add] using World.cell?_spot h2
    subst hsp
    refine ⟨b, o, rfl, fun i x hi => ?_⟩
    have hl : i < n := by simpa using (List.getElem?_eq_some_iff.1 hi).1
    obtain ⟨a, h3, h4, _⟩ := hF i hl
    injection h3 with h3
    subst h3
    rw [addr_add] at h4
    simp [hl] at hi
    rw [h4, hi]
  · simp at hx
    obtain ⟨i, hi, rfl⟩ := hx
    obtain ⟨_, _, _, h⟩ := hF i hi
    exact h
end
end Go.Proofs.YtapcgokcfmklbaaDoor
