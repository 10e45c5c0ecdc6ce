/-
  Rows of the call's own: a slice that is nil or stands in a block of its own; append onto it. No program in sight. Conditions: none.
-/
import Derived.Test.YtapcgokcfmklbaaDoorFlt
namespace Go.Proofs.YtapcgokcfmklbaaDoor
open Go Go.RowKit

/-- A slice value with n elements of size s that read as xs: nil, or the beginning of a block of its own. -/
inductive Row (el : TypeId) (s : Nat) : Value → Nat → List Value → HL → Prop where
  | nil : Row el s (.slice none 0 0) 0 [] []
  | own {g n cap : Nat} {xs junk : List Value} (hl : xs.length = n * s) (hc : xs.length + junk.length = cap * s) (hn : n ≤ cap) (hm : cap ≤ maxLen) : Row el s (.slice (some ⟨g, 0, none⟩) n cap) n xs [⟨g, el, xs ++ junk⟩]
theorem Row.some {el s : Nat} {v : Value} {n : Nat} {xs : List Value} {H : HL} (h : Row el s v n xs H) (hn : 0 < n) :
    ∃ g cap junk, v = .slice (some ⟨g, 0, none⟩) n cap ∧ H = [⟨g, el, xs ++ junk⟩] ∧ n ≤ cap ∧ cap ≤ maxLen ∧ xs.length = n * s := by
  cases h with
  | nil => omega
  | own hl hc hn hm => exact ⟨_, _, _, rfl, rfl, hn, hm, hl⟩
theorem Row.len {el s : Nat} {v : Value} {n : Nat} {xs : List Value} {H : HL} (h : Row el s v n xs H) : xs.length = n * s := by
  cases h with
  | nil => simp
  | own hl hc hn hm => exact hl
theorem Row.slice {el s : Nat} {v : Value} {n : Nat} {xs : List Value} {H : HL} (h : Row el s v n xs H) : ∃ A c, v = .slice A n c ∧ n ≤ c ∧ c ≤ maxLen := by
  cases h with
  | nil => exact ⟨_, _, rfl, Nat.le_refl _, Nat.zero_le _⟩
  | own hl hc hn hm => exact ⟨_, _, rfl, hn, hm⟩
/-- What a list ends in. -/
inductive Suf (Hr : HL) : HL → HL → Prop where
  | base : Suf Hr Hr []
  | cons {b : B} {H L : HL} (h : Suf Hr H L) : Suf Hr (b :: H) (b :: L)
theorem Suf.eq {Hr H L : HL} (h : Suf Hr H L) : H = L ++ Hr := by
  induction h with
  | base => rfl
  | cons _ ih => simp [ih]
section
variable {P : Program} {W : World} {n : Nat} {ops : Array Oper} {Q : Env → HL → Prop} {rest : List Oper} {e : Env} {H : HL}
variable {d : Tmp} {ty t : TypeId} {pos : String} {af : Array Edge} {x y : Operand} {v : Value} {z : List Value} {ag : Bool} {by_ : Nat}
theorem RS.appendRow {el : TypeId} {l m c : Nat} {a : Addr} {xs news : List Value} {Hr L : HL} (hd : Nat.blt d n = true) (hu : P.underlying t = some (.slice el)) (he : tyChk P el = some (z, ag, by_))
    (hx : ev e x = v) (hrow : Row el z.length v l xs Hr) (hs : Suf Hr H L)
    (hy : ev e y = .slice (some a) m c) (hsrc : Src W H a news) (hnl : news.length = m * z.length) (h1 : news.all (·.oneCell') = true) (hz : 0 < z.length) (hm : 0 < m) (h63 : l + m ≤ maxLen) (hby : (l + m) * by_ ≤ 140737488355328)
    (k : ∀ v' Hr', Row el z.length v' (l + m) (xs ++ news) Hr' → RS P W n ops Q rest (put e d v') (L ++ Hr')) :
    RS P W n ops Q (⟨some d, .call ⟨.builtin .append, #[x, y], #[t, t]⟩, ty, pos, af, none⟩ :: rest) e H := by
  have h1' : ∀ u ∈ news, u.oneCell' = true := fun u hu => by simpa using List.all_eq_true.1 h1 u hu
  have hH := hs.eq
  cases hrow with
  | nil =>
    rw [Nat.zero_add] at h63 hby
    refine RS.appendNil hd hu he hx hy hm hsrc hnl h1' hz h63 hby fun g' cap' junk' q1 q2 q3 => ?_
    have hr : Row el z.length (.slice (some ⟨g', 0, none⟩) (0 + m) cap') (0 + m) ([] ++ news) [⟨g', el, news ++ junk'⟩] := by
      rw [Nat.zero_add, List.nil_append]; exact .own hnl q1 q2 q3
    have := k _ _ hr
    rw [Nat.zero_add] at this
    refine RS.perm ?_ this
    rw [hH, List.append_nil]
    exact (List.perm_append_singleton _ _).symm
  | @own g _ cap _ junk hl hc hn hmx =>
    have hrem : ∃ H', Rem ⟨g, el, xs ++ junk⟩ H H' ∧ H'.Perm L := by
      rw [hH]
      clear hH hs k hsrc
      induction L with
      | nil => exact ⟨[], .head, .refl _⟩
      | cons b L ih =>
        obtain ⟨H', h1, h2⟩ := ih
        exact ⟨b :: H', .tail h1, h2.cons b⟩
    obtain ⟨H', hr1, hr2⟩ := hrem
    refine RS.append hd hu he hx hr1 hl hc hn hmx hy hsrc hnl h1' hz h63 hby fun g' cap' junk' q1 q2 q3 => ?_
    have hr : Row el z.length (.slice (some ⟨g', 0, none⟩) (l + m) cap') (l + m) (xs ++ news) [⟨g', el, (xs ++ news) ++ junk'⟩] :=
      .own (by rw [List.length_append, hl, hnl, Nat.add_mul]) (by rw [List.length_append]; exact q1) q2 q3
    refine RS.perm ?_ (k _ _ hr)
    exact (hr2.cons _).trans (List.perm_append_singleton _ _).symm
end
theorem Src.blk {W : World} {H : HL} {g : Nat} {tb : TypeId} {cs : List Value} (hm : (⟨g, tb, cs⟩ : B) ∈ H) : Src W H ⟨g, 0, none⟩ cs := .inr ⟨g, 0, tb, cs, rfl, hm, fun j u h => by rw [Nat.zero_add]; exact h⟩
end Go.Proofs.YtapcgokcfmklbaaDoor
