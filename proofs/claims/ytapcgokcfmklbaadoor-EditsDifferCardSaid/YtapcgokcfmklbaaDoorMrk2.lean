/-
  Where two films differ: ranges, cells. No program in sight. Conditions: none.
-/
import Derived.Test.YtapcgokcfmklbaaDoorMrk
import Derived.Test.YtapcgokcfmklbaaDoorEq2
namespace Go.Proofs.YtapcgokcfmklbaaDoor
open Go Go.RowKit

def lastR (out : List (Int × Int)) : Int × Int := out.getD (out.length - 1) (0, 0)
def stepR (out : List (Int × Int)) (m t : Int) (al : Bool) : List (Int × Int) :=
  if al = true then out else if out.length ≠ 0 ∧ (lastR out).2 = m then out.dropLast ++ [((lastR out).1, t)] else out ++ [(m, t)]
def rngs (al : Int → Bool) (S : List Int) : Nat → List (Int × Int)
  | 0 => []
  | k + 1 => stepR (rngs al S k) (S.getD k 0) (S.getD (k + 1) 0) (al (S.getD k 0))
def alk (a b : List Ev) (m : Int) : Bool := decide ((atR a m).2 = (atR b m).2)
def rgC : List (Int × Int) → List Value
  | [] => []
  | p :: l => iv p.1 :: iv p.2 :: rgC l
theorem rgC_len : ∀ l, (rgC l).length = 2 * l.length
  | [] => rfl
  | p :: l => by simp only [rgC, List.length_cons, rgC_len l]; omega
theorem rgC_app : ∀ l m, rgC (l ++ m) = rgC l ++ rgC m
  | [], m => rfl
  | p :: l, m => by simp only [List.cons_append, rgC, rgC_app l m]
theorem rg_split {l : List (Int × Int)} (h : l.length ≠ 0) : l = l.dropLast ++ [lastR l] := by
  have hne : l ≠ [] := fun e => h (by rw [e]; rfl)
  have h1 := List.dropLast_concat_getLast hne
  have h2 : lastR l = l.getLast hne := by
    unfold lastR
    rw [List.getLast_eq_getElem, List.getD_eq_getElem?_getD, List.getElem?_eq_getElem (by omega)]; rfl
  rw [h2]; exact h1.symm
theorem rg_cell {l : List (Int × Int)} {junk : List Value} (h : l.length ≠ 0) : (rgC l ++ junk)[(l.length - 1) * 2 + 1]? = some (iv (lastR l).2) := by
  rw [List.getElem?_append_left (by rw [rgC_len]; omega)]
  conv => lhs; rw [rg_split h, rgC_app]
  rw [List.getElem?_append_right (by rw [rgC_len]; simp; omega), rgC_len]
  simp only [List.length_append, List.length_dropLast, List.length_singleton]
  rw [show (l.length - 1 + 1 - 1) * 2 + 1 - 2 * (l.length - 1) = 1 by omega]
  rfl
theorem rg_set {l : List (Int × Int)} {junk : List Value} {t : Int} (h : l.length ≠ 0) : (rgC l ++ junk).set ((l.length - 1) * 2 + 1) (iv t) = rgC (l.dropLast ++ [((lastR l).1, t)]) ++ junk := by
  rw [List.set_append_left _ _ (by rw [rgC_len]; omega)]
  congr 1
  conv => lhs; rw [rg_split h, rgC_app]
  rw [List.set_append_right _ _ (by rw [rgC_len]; simp; omega), rgC_len, rgC_app]
  simp only [List.length_append, List.length_dropLast, List.length_singleton]
  rw [show (l.length - 1 + 1 - 1) * 2 + 1 - 2 * (l.length - 1) = 1 by omega]
  rfl
theorem step_T {out : List (Int × Int)} {m t : Int} {al : Bool} (h : al = true) : stepR out m t al = out := if_pos h
theorem step_M {out : List (Int × Int)} {m t : Int} {al : Bool} (h : al = false) (h1 : out.length ≠ 0) (h2 : (lastR out).2 = m) : stepR out m t al = out.dropLast ++ [((lastR out).1, t)] := by
  unfold stepR; rw [if_neg (by rw [h]; decide), if_pos ⟨h1, h2⟩]
theorem step_A {out : List (Int × Int)} {m t : Int} {al : Bool} (h : al = false) (h1 : out.length = 0 ∨ (lastR out).2 ≠ m) : stepR out m t al = out ++ [(m, t)] := by
  unfold stepR; rw [if_neg (by rw [h]; decide), if_neg (fun hh => by rcases h1 with h1 | h1 <;> simp_all)]
theorem step_len (out : List (Int × Int)) (m t : Int) (al : Bool) : (stepR out m t al).length ≤ out.length + 1 := by
  unfold stepR
  split
  · omega
  · split
    · rw [List.length_append, List.length_dropLast]; simp
    · simp
theorem rngs_len (al : Int → Bool) (S : List Int) : ∀ k, (rngs al S k).length ≤ k
  | 0 => Nat.le_refl _
  | k + 1 => by
    have h1 := rngs_len al S k
    have h2 := step_len (rngs al S k) (S.getD k 0) (S.getD (k + 1) 0) (al (S.getD k 0))
    show (stepR _ _ _ _).length ≤ _
    omega
theorem sd_cell {S : List Int} {r k : Nat} {junk : List Value} (hk : k < S.length) : ((S ++ List.replicate r 0).map (Value.int .i64) ++ junk)[k]? = some (iv (S.getD k 0)) := by
  rw [List.getElem?_append_left (by simp; omega), List.getElem?_map, List.getElem?_append_left hk, List.getD_eq_getElem?_getD, List.getElem?_eq_getElem hk]; rfl
def fdS (s : Sh) : List Fd := [.i 0, .s s.reel, .i s.frame, .s s.back, .i s.bf, .f s.share]
theorem one_num : nan32 1065353216 = false := by decide
theorem pos_num {b : Nat} (h : b < 2139095040) : nan32 b = false := by
  unfold nan32
  rw [decide_eq_false_iff_not]; omega
theorem fst_hit {l : List Ev} {f : Int} : ∀ {n i : Nat}, fst l f n = some i → i < n ∧ hit (l.getD i default) f = true ∧ fst l f i = none
  | 0, i, h => by cases h
  | n + 1, i, h => by
    unfold fst at h
    split at h
    · rename_i j hj
      cases h
      have := fst_hit hj
      exact ⟨by omega, this.2⟩
    · rename_i hn
      split at h
      · rename_i hh
        cases h
        exact ⟨by omega, hh, hn⟩
      · cases h
theorem share_ok {t : List UInt8} {r : Int} {l : List Ev} (hE : edE t r l = 0) (f : Int) : (atR l f).2.1.share = 0 ∨ (0 < (atR l f).2.1.share ∧ (atR l f).2.1.share < 2139095040) := by
  unfold atR
  cases h : fst l f l.length with
  | none => exact .inl rfl
  | some i =>
    right
    obtain ⟨h1, h2, _⟩ := fst_hit h
    have h3 := okE_of hE h1
    unfold okE at h3
    have h4 := of_decide_eq_true h2
    show 0 < (shOf l f i).share ∧ (shOf l f i).share < 2139095040
    unfold shOf
    split
    · rename_i h5
      have h6 := shB_ok (a := (f - (l.getD i default).at_ + 1).toNat) (b := ((l.getD i default).len + 1).toNat) (by omega) (by omega) (by omega)
      exact ⟨h6.2.1, h6.2.2.1⟩
    · exact ⟨by show 0 < 1065353216; decide, by show 1065353216 < 2139095040; decide⟩
theorem share_num {t : List UInt8} {r : Int} {l : List Ev} (hE : edE t r l = 0) (f : Int) : nan32 (atR l f).2.1.share = false := by
  have := share_ok hE f
  exact pos_num (by omega)
theorem fdS_eq {s u : Sh} (hn : nan32 s.share = false) (h : s.share = u.share) : allEq (fdS s) (fdS u) = decide (s = u) := by
  have h1 : fcmpB .eql s.share u.share = true := by
    rw [← h]; unfold fcmpB; rw [order_self hn]; rfl
  rw [Bool.eq_iff_iff, decide_eq_true_eq]
  cases s; cases u
  simp only at h h1
  subst h
  simp only [fdS, allEq, Fd.eq, h1, Bool.and_eq_true, beq_iff_eq, Sh.mk.injEq, and_true, true_and]
theorem alk_e {a b : List Ev} {m : Int} {i1 i2 : Nat} {s1 s2 : Sh} {e1 e2 : Int} (h1 : atR a m = (i1, s1, e1)) (h2 : atR b m = (i2, s2, e2)) (h : e1 ≠ e2) : false = alk a b m := by
  unfold alk; rw [h1, h2]
  exact (decide_eq_false (fun hh => h (by injection hh))).symm
theorem alk_b {a b : List Ev} {m : Int} {i1 i2 : Nat} {s1 s2 : Sh} {e1 e2 : Int} (h1 : atR a m = (i1, s1, e1)) (h2 : atR b m = (i2, s2, e2)) (h : s1.share ≠ s2.share) : false = alk a b m := by
  unfold alk; rw [h1, h2]
  exact (decide_eq_false (fun hh => h (by injection hh with h3; rw [h3]))).symm
theorem alk_c {a b : List Ev} {m : Int} {i1 i2 : Nat} {s1 s2 : Sh} {e1 e2 : Int} (h1 : atR a m = (i1, s1, e1)) (h2 : atR b m = (i2, s2, e2)) (he : e1 = e2) (h : s1.share = s2.share) (hn : nan32 s1.share = false) : allEq (fdS s1) (fdS s2) = alk a b m := by
  unfold alk; rw [h1, h2, fdS_eq hn h]
  subst he
  by_cases e : s1 = s2
  · subst e; rw [decide_eq_true rfl, decide_eq_true rfl]
  · rw [decide_eq_false e, decide_eq_false (fun hh => e (by injection hh))]
def cmpE (ea eb : Int) : Int := if ea ≠ 0 then ea else eb
theorem cmpE_at {ea eb : Int} {s : Nat} (h0 : 0 < s → ea = 0) (h : T2 ea eb s ≠ 0) : cmpE ea eb = T2 ea eb s := by
  unfold cmpE T2 at *
  by_cases e : s = 0
  · rw [if_pos e] at h ⊢; rw [if_pos h]
  · rw [if_neg e, if_neg (by simp [h0 (by omega)])]
theorem cl2_0 {ea eb : Int} {s : Nat} (h0 : 0 < s → ea = 0) (h : T2 ea eb s = 0) : 0 < s + 1 → ea = 0 := fun _ => by
  unfold T2 at h
  by_cases e : s = 0
  · rw [if_pos e] at h; exact h
  · exact h0 (by omega)
theorem cl2_1 {ea eb : Int} {s : Nat} (_ : 0 < s → ea = 0) (h : T2 ea eb s = 0) : 1 < s + 1 → eb = 0 := fun h1 => by
  unfold T2 at h
  rw [if_neg (by omega)] at h; exact h
theorem Row.some2 {el s : Nat} {v : Value} {n : Nat} {xs : List Value} {H : HL} (h : Row el s v n xs H) (hn : 0 < n) :
    ∃ g cap junk, v = .slice (Option.some ⟨g, 0, none⟩) n cap ∧ H = [⟨g, el, xs ++ junk⟩] ∧ n ≤ cap ∧ cap ≤ maxLen ∧ xs.length = n * s ∧ xs.length + junk.length = cap * s := by
  cases h with
  | nil => omega
  | own hl hc hn hm => exact ⟨_, _, _, rfl, rfl, hn, hm, hl, hc⟩
theorem SD_ne {zs : List Int} {x : Int} (h : x ∈ zs) : 0 + 1 ≤ (SD zs).length := List.length_pos_of_mem (SD_mem.2 h)
theorem SD_le (zs : List Int) : (SD zs).length ≤ zs.length := by
  have h := Lib.compact_length_le (srt zs)
  rw [srt_len] at h
  exact h
theorem PM_zero (a b : List Ev) (M : Int) : ∀ s, (0 : Int) ∈ PM a b M s
  | 0 => List.mem_cons_self ..
  | s + 1 => List.mem_append_left _ (PM_zero a b M s)
theorem RM_zero (a b : List Ev) : ∀ s, (0 : Int) ∈ RM a b s
  | 0 => List.mem_cons_self ..
  | s + 1 => List.mem_append_left _ (RM_zero a b s)
theorem merge_len {out : List (Int × Int)} {t : Int} (h : out.length ≠ 0) : (out.dropLast ++ [((lastR out).1, t)]).length = out.length := by
  rw [List.length_append, List.length_dropLast]; simp; omega
theorem row_merge {go cap : Nat} {junk : List Value} {out : List (Int × Int)} {t : Int} (h : out.length ≠ 0) (h1 : out.length ≤ cap) (h2 : cap ≤ maxLen) (h3 : (rgC out).length + junk.length = cap * 2) :
    Row 77 2 (.slice (some ⟨go, 0, none⟩) out.length cap) (out.dropLast ++ [((lastR out).1, t)]).length (rgC (out.dropLast ++ [((lastR out).1, t)])) [⟨go, 77, rgC (out.dropLast ++ [((lastR out).1, t)]) ++ junk⟩] := by
  have hl := merge_len (t := t) h
  rw [rgC_len] at h3
  have e : (rgC (out.dropLast ++ [((lastR out).1, t)])).length = 2 * out.length := by rw [rgC_len, hl]
  rw [hl]
  exact .own (by rw [e]; omega) (by rw [e]; omega) h1 h2
theorem compactSD (g cap : Nat) (zs : List Int) (junk : List Value) (HR : HL) (W : World) (e : TypeId) (hz : zs.length ≤ 9223372036854775807) (hc : zs.length ≤ cap) : FnH Tryd.prog 99 #[.slice (some ⟨g, 0, none⟩) zs.length cap] W (⟨g, e, (srt zs).map (Value.int .i64) ++ junk⟩ :: HR)
    (fun v H => v = .slice (some ⟨g, 0, none⟩) (SD zs).length cap ∧ H = ⟨g, e, (SD zs ++ List.replicate (zs.length - (SD zs).length) 0).map (Value.int .i64) ++ junk⟩ :: HR) := compactI g cap zs.length (srt zs) junk HR W e (srt_len _) hz hc
/-- one of two lists -/
theorem pk2 {W : World} {t t2 : List UInt8} {r r2 : Int} {A A2 : Option Addr} {c c2 : Nat} {a b : List Ev} (hA : ES W A a) (hA2 : ES W A2 b) (ht : t.length ≤ maxLen) (ht2 : t2.length ≤ maxLen) (hr : ∀ e ∈ a, e.reel.length ≤ maxLen) (hr2 : ∀ e ∈ b, e.reel.length ≤ maxLen)
    (hm : a.length ≤ maxLen) (hm2 : b.length ≤ maxLen) (s : Nat) (hs : s < 2) : ∃ (tS : List UInt8) (rS : Int) (AS : Option Addr) (cS : Nat) (lS : List Ev), T2 a b s = lS ∧ edE tS rS lS = T2 (edE t r a) (edE t2 r2 b) s ∧ ES W AS lS ∧
      ((([sv t, iv r, .slice A a.length c, sv t2, iv r2, .slice A2 b.length c2] : List Value).drop (s * 3)).take 3 = [sv tS, iv rS, .slice AS lS.length cS]) ∧ tS.length ≤ maxLen ∧ (∀ e ∈ lS, e.reel.length ≤ maxLen) ∧ lS.length ≤ maxLen := by
  match s, hs with
  | 0, _ => exact ⟨t, r, A, c, a, rfl, rfl, hA, rfl, ht, hr, hm⟩
  | 1, _ => exact ⟨t2, r2, A2, c2, b, rfl, rfl, hA2, rfl, ht2, hr2, hm2⟩
end Go.Proofs.YtapcgokcfmklbaaDoor
