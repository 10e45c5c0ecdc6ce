/-
  Contracts: PlanesMatch. Conditions: as each theorem says.
-/
import Derived.Test.YtplfeaikjgfhcaaC4
namespace Go.Proofs.Ytplfeaikjgfhcaa
open Go Go.Proofs Go.RowKit

theorem ok30 : callOK Try.prog 30 = true := by kernel_rfl
theorem ok32 : callOK Try.prog 32 = true := by kernel_rfl
theorem ok33 : callOK Try.prog 33 = true := by kernel_rfl
theorem ok34 : callOK Try.prog 34 = true := by kernel_rfl
theorem ok35 : callOK Try.prog 35 = true := by kernel_rfl

theorem regErr_small {X Y : Int} {a b : Nat} (ha : 1 ≤ a ∧ a ≤ 8) (hb : 1 ≤ b ∧ b ≤ 8) (hX : -1000 ≤ X ∧ X ≤ 1000) (hY : -1000 ≤ Y ∧ Y ≤ 1000) : regErr X Y a b = 0 := by
  have h5 : a * b ≤ 8 * 8 := Nat.mul_le_mul ha.2 hb.2
  have h6 : ((a * b : Nat) : Int) = (a : Int) * (b : Int) := Int.natCast_mul ..
  unfold regErr outR
  rw [if_neg (by omega), if_neg (by omega), if_neg (by simp; omega)]
theorem fit' (x y wi he : Int) (A : Option Addr) (n c : Nat) (xs : List Nat) (W : World) (hn : xs.length = n) (hA : FS W A xs) (hlx : n ≤ maxLen) : Fn_ Try.prog 20 #[.agg #[iv x, iv y, iv wi, iv he, .slice A n c]] W (fun v H =>
    ∃ (g : Nat) (X Y : Int) (a b : Nat) (ys : List Nat), v = .agg #[iv X, iv Y, iv (a : Int), iv (b : Int), .slice (some ⟨g, 0, none⟩) ys.length ys.length] ∧ H = [⟨g, 33, ys.map flt⟩] ∧
      ys.length = 4 * (a * b) ∧ (1 ≤ a ∧ a ≤ 8) ∧ (1 ≤ b ∧ b ≤ 8) ∧ (-1000 ≤ X ∧ X ≤ 1000) ∧ (-1000 ≤ Y ∧ Y ≤ 1000) ∧ a * b ≤ 64) := by
  refine (fit x y wi he A n c xs W hn hA hlx).mono fun v H h => ?_
  obtain ⟨g, rfl, rfl⟩ := h
  have h1 := and7_bd wi
  have h2 := and7_bd he
  have h3 := clamp_bd x
  have h4 := clamp_bd y
  obtain ⟨a, ha⟩ : ∃ a : Nat, 1 + and7 wi = (a : Int) := ⟨(1 + and7 wi).toNat, by omega⟩
  obtain ⟨b, hb⟩ : ∃ b : Nat, 1 + and7 he = (b : Int) := ⟨(1 + and7 he).toNat, by omega⟩
  have h7 := fitN_eq wi he
  have h6 : ((a * b : Nat) : Int) = (a : Int) * (b : Int) := Int.natCast_mul ..
  have h8 : fitN wi he = 4 * (a * b) := by rw [ha, hb] at h7; omega
  have h9 : (fitV xs wi he).length = fitN wi he := fitV_len _ _ _
  rw [ha, hb] at h7
  refine ⟨g, clamp x, clamp y, a, b, fitV xs wi he, by rw [ha, hb, h9], rfl, by rw [h9, h8], by omega, by omega, h3, h4, by omega⟩
theorem plane' (x y : Int) (a b : Nat) (A : Option Addr) (n c : Nat) (xs : List Nat) (ch : Int) (W : World) (hn : xs.length = n) (hA : FS W A xs) (hN : n = 4 * (a * b)) (hr : regErr x y a b = 0) :
    Fn_ Try.prog 29 #[.agg #[iv x, iv y, iv (a : Int), iv (b : Int), .slice A n c], iv ch] W (fun v H => ∃ (Ap : Option Addr) (np : Nat) (ep : Int), v = .tuple #[.slice Ap np np, iv ep] ∧
      (((ch < 0 ∨ 3 < ch) ∧ ep = 3 ∧ np = 0 ∧ H = []) ∨ (0 ≤ ch ∧ ch ≤ 3 ∧ ep = 0 ∧ np = a * b ∧ ∃ g, Ap = some ⟨g, 0, none⟩ ∧ H = [⟨g, 33, (planeV xs ch (a * b)).map flt⟩]))) := by
  refine (plane x y a b A n c xs ch W hn hA).mono fun v H h => ?_
  have h6 : ((a * b : Nat) : Int) = (a : Int) * (b : Int) := Int.natCast_mul ..
  have h7 : 4 * (a : Int) * (b : Int) = 4 * ((a : Int) * (b : Int)) := Int.mul_assoc ..
  have he : frErr x y a b xs.length = 0 := by
    unfold frErr
    rw [hr, if_neg (by simp), if_neg (by omega)]
  have h8 : ((a : Int) * (b : Int)).toNat = a * b := by omega
  rcases h with ⟨h1, _⟩ | ⟨_, h1, rfl, rfl⟩ | ⟨_, h1, h2, g, rfl, rfl⟩
  · exact absurd he h1
  · exact ⟨none, 0, 3, rfl, .inl ⟨h1, rfl, rfl, rfl⟩⟩
  · rw [h8]
    exact ⟨_, _, _, rfl, .inr ⟨h1, h2, rfl, rfl, g, rfl, rfl⟩⟩

set_option maxRecDepth 100000 in
theorem eqF (A A' : Option Addr) (n n' c c' : Nat) (xs xs' : List Nat) (W : World) (hx : xs.map cl = xs'.map cl) (hxe : xs = xs') (hn : xs.length = n) (hn' : xs'.length = n') (hA : FS W A xs) (hA' : FS W A' xs') (hm : n ≤ maxLen) : Fn_ Try.prog 30 #[.slice A n c, .slice A' n' c', .func (.func 28) #[] #[]] W (fun v H => v = .bool true ∧ H = []) := by
  subst hxe
  subst hn
  subst hn'
  unfold maxLen at hm
  refine Fn_.intro Try.func30 rfl rfl (by rfl) ?_
  refine CS.seq ?_
  refine CS.region ?_
  refine RS.q rfl (QO.assign) ?_
  refine RS.nil ?_
  refine thenC_n ?_
  refine CS.seq ?_
  refine CS.seq ?_
  refine CS.region ?_
  refine RS.q rfl (QO.move) ?_
  refine RS.q rfl (QO.lenS Try.underlying24 (by rfl)) ?_
  refine RS.q rfl (QO.move) ?_
  refine RS.q rfl (QO.lenS Try.underlying24 (by rfl)) ?_
  refine RS.q rfl (QO.neq (by rfl) (by rfl)) ?_
  refine RS.nil ?_
  refine thenC_n ?_
  refine CS.condF (by rfl) (bne_self_eq_false _) ?_
  refine CS.skip ?_
  refine thenC_n ?_
  refine CS.seq ?_
  refine CS.seq ?_
  refine CS.region ?_
  refine RS.q rfl (QO.move) ?_
  refine RS.q rfl (QO.lenS Try.underlying24 (by rfl)) ?_
  refine RS.q rfl (QO.move) ?_
  refine RS.nil ?_
  refine thenC_n ?_
  refine CS.block ?_
  refine CS.loop (X := Nat) (6 :: 7 :: 8 :: 9 :: 17 :: 18 :: 19 :: 20 :: 21 :: 22 :: 23 :: 24 :: 25 :: 26 :: 27 :: 28 :: 29 :: 30 :: 31 :: []) (fun k => [(17, iv (k : Int))]) (fun k => []) (fun k => k ≤ xs.length) (fun k => xs.length - k) 0 (Nat.zero_le _) ?_ ?_ ?_
  · exact (by repeat (first | exact kn_nil | refine kn_cons (by rfl) ?_))
  · exact (by repeat (first | exact List.Sublist.refl _ | exact List.nil_sublist _ | refine List.Sublist.cons_cons _ ?_ | refine List.Sublist.cons _ ?_ | exact Sbp.refl | exact Sbp.nil | refine Sbp.cons (by repeat (first | exact Rem.head | apply Rem.tail)) ?_ | exact Sbp.app | refine Sbp.skip ?_))
  · intro k gj4 hz
    refine CS.seq ?_
    refine CS.region ?_
    refine RS.q rfl (QO.lss (by rfl) (by rfl)) ?_
    refine RS.nil ?_
    refine thenC_n ?_
    refine CS.seq ?_
    refine CS.cond (by rfl) (fun hb0 => ?_) (fun hb0 => ?_)
    · have hb0p := of_decide_eq_true hb0
      refine CS.skip ?_
      refine thenC_n ?_
      refine CS.seq ?_
      refine CS.block ?_
      refine CS.seq ?_
      refine CS.region ?_
      refine RS.q rfl (QO.move) ?_
      have hlt : k < xs.length := by omega
      obtain ⟨bA, oA, rfl, hcell⟩ := hA (by omega)
      obtain ⟨bA', oA', rfl, hcell'⟩ := hA' (by omega)
      first | (refine RS.q rfl (QO.idx0 Try.underlying24 ty33 (by rfl) (by rfl) (by rfl) (by omega)) ?_) | (refine RS.q rfl (QO.idxn Try.underlying24 ty33 (by rfl) (by rfl) (by rfl) (by omega)) ?_) | (refine RS.q rfl (QO.idx1 Try.underlying24 ty33 (by rfl) (by rfl) (by omega) (by omega)) ?_)
      refine RS.q rfl (QO.loadO ty33 (by rfl) (hcell _ _ (List.getElem?_eq_getElem hlt))) ?_
      refine RS.q rfl (QO.assign) ?_
      refine RS.q rfl (QO.assign) ?_
      refine RS.nil ?_
      refine thenC_n ?_
      refine CS.seq ?_
      refine CS.region ?_
      refine RS.q rfl (QO.move) ?_
      refine RS.q rfl (QO.move) ?_
      first | (refine RS.q rfl (QO.idx0 Try.underlying24 ty33 (by rfl) (by rfl) (by rfl) (by omega)) ?_) | (refine RS.q rfl (QO.idxn Try.underlying24 ty33 (by rfl) (by rfl) (by rfl) (by omega)) ?_) | (refine RS.q rfl (QO.idx1 Try.underlying24 ty33 (by rfl) (by rfl) (by omega) (by omega)) ?_)
      refine RS.q rfl (QO.loadO ty33 (by rfl) (hcell' _ _ (List.getElem?_eq_getElem hlt))) ?_
      refine RS.q rfl (QO.assign) ?_
      refine RS.nil ?_
      refine thenC_n ?_
      refine CS.seq ?_
      refine CS.region ?_
      refine RS.q rfl (QO.move) ?_
      refine RS.q rfl (QO.move) ?_
      refine RS.q rfl (QO.move) ?_
      refine RS.call rfl (by rfl) ok28 (by rfl) (fun w ho => exact_true _ _ rfl _) ?_
      rintro _ _ ⟨rfl, rfl⟩
      refine RS.q rfl (QO.not (by rfl)) ?_
      refine RS.nil ?_
      refine thenC_n ?_
      refine CS.condF (by rfl) rfl ?_
      refine CS.skip ?_
      refine blockC_n ?_
      refine thenC_n ?_
      refine CS.region ?_
      first | (refine RS.q rfl (QO.add (by rfl) (by rfl) (by omega) (by omega)) ?_) | (refine RS.q rfl (QO.ibin (by rfl) (by rfl) trivial) ?_)
      refine RS.q rfl (QO.move) ?_
      refine RS.nil ?_
      refine loopQ_n (by intro t ht; repeat (first | with_reducible exact rfl | exact frame_puts ht (frame_mix ht) _ rfl | (refine frame_put rfl ht ?_) | (refine frame_puts ht ?_ _ rfl) | exact frame_mix ht | (refine frame_mix2 rfl ht ?_) | exact rfl)) ?_
      exact ⟨k + 1, by omega, by omega, (by repeat (first | exact kn_nil | refine kn_cons (by rfl) ?_)), (by repeat (first | exact List.Sublist.refl _ | exact List.nil_sublist _ | refine List.Sublist.cons_cons _ ?_ | refine List.Sublist.cons _ ?_ | exact Sbp.refl | exact Sbp.nil | refine Sbp.cons (by repeat (first | exact Rem.head | apply Rem.tail)) ?_ | exact Sbp.app | refine Sbp.skip ?_))⟩
    · have hb0p := of_decide_eq_false hb0
      refine CS.exit ?_
      refine thenC_x ?_
      refine loopQ_x ?_
      refine blockC_x ?_
      refine thenC_n ?_
      refine CS.seq ?_
      refine CS.region ?_
      refine RS.q rfl (QO.assign) ?_
      refine RS.nil ?_
      refine thenC_n ?_
      refine CS.ret ?_
      refine retQ.mk (H' := []) (.inr rfl) (RVs.tmp (by rfl) RVs.nil) (List.nil_sublist _) ?_
      exact ⟨rfl, rfl⟩

theorem sameTrue (x y wi he : Int) (A A' : Option Addr) (n n' c c' : Nat) (xs : List Nat) (W : World) (hn : xs.length = n) (hn' : xs.length = n') (hA : FS W A xs) (hA' : FS W A' xs) (hm : n ≤ maxLen) :
    Fn_ Try.prog 33 #[.agg #[iv x, iv y, iv wi, iv he, .slice A n c], .agg #[iv x, iv y, iv wi, iv he, .slice A' n' c']] W (fun v H => v = .bool true ∧ H = []) := by
  refine (sameFrame x y wi he x y wi he A A' n n' c c' xs xs W hn hn' hA hA' hm).mono fun v H h => ?_
  obtain ⟨rfl, rfl⟩ := h
  simp
theorem perm5 {α : Type} {a b c d e f : α} {l : List α} : (a :: b :: c :: d :: e :: f :: l).Perm (b :: c :: d :: e :: f :: a :: l) := (List.perm_middle (l₁ := [b, c, d, e, f])).symm
/-- four planes, as far as they are there -/
def gsL (G : Nat → Nat) (m k : Nat) : List Value := (List.range 4).map fun i => if i < k then .slice (some ⟨G i, 0, none⟩) m m else .slice none 0 0
theorem gsL_set (G : Nat → Nat) (m k g : Nat) (hk : k < 4) : (gsL G m k).set k (.slice (some ⟨g, 0, none⟩) m m) = gsL (fun j => if j = k then g else G j) m (k + 1) := by
  unfold gsL
  apply List.ext_getElem?
  intro i
  by_cases hi : i = k
  · subst hi; simp [hk]
  · rw [List.getElem?_set_ne (Ne.symm hi)]
    by_cases hN : i < 4
    · simp [hN, hi]
      have : (i < k ↔ i < k + 1) := by omega
      simp [this]
    · simp [hN]
theorem fpV_planes (ys : List Nat) (m : Nat) (h : ys.length = 4 * m) : fpV (fun i => planeV ys (i : Int) m) (4 * m) = ys.map cl := by
  unfold fpV
  apply List.ext_getElem
  · simp [h]
  · intro i h1 h2
    simp at h1 h2
    have h3 : i / 4 < m := by omega
    have h4 : (planeV ys ((i % 4 : Nat) : Int) m)[i / 4]? = some (planeF ys ((i % 4 : Nat) : Int) (i / 4)) := by
      unfold planeV
      rw [List.getElem?_map, List.getElem?_range h3]; rfl
    have h5 : (4 * ((i / 4 : Nat) : Int) + ((i % 4 : Nat) : Int)).toNat = i := by omega
    simp only [List.getElem_map, List.getElem_range]
    rw [List.getD_eq_getElem?_getD, h4]
    show cl (planeF ys ((i % 4 : Nat) : Int) (i / 4)) = _
    unfold planeF
    rw [cl_cl, h5, getD_at]
theorem FPR.ok {x y : Int} {a b : Nat} {ys : List Nat} {v : Value} {H : HL} (hr : regErr x y a b = 0) (hN : ys.length = 4 * (a * b)) (h : FPR x y a b (fun _ => a * b) (fun i => planeV ys (i : Int) (a * b)) v H) :
    ∃ g, v = .tuple #[.agg #[iv x, iv y, iv (a : Int), iv (b : Int), .slice (some ⟨g, 0, none⟩) ys.length ys.length], iv 0] ∧ H = [⟨g, 33, (ys.map cl).map flt⟩] := by
  have h6 : ((a * b : Nat) : Int) = (a : Int) * (b : Int) := Int.natCast_mul ..
  have h7 : 4 * (a : Int) * (b : Int) = 4 * ((a : Int) * (b : Int)) := Int.mul_assoc ..
  have h0 : fpErr x y a b (fun _ => a * b) = 0 := fpErr_ok hr fun _ _ => h6
  rcases h with ⟨h1, _⟩ | ⟨_, g, N, hNN, rfl, rfl⟩
  · exact absurd h0 h1
  · obtain rfl : N = 4 * (a * b) := by omega
    rw [fpV_planes _ _ hN, ← hN]
    exact ⟨g, rfl, rfl⟩
theorem FPR.any {x y wi he : Int} {n : Nat → Nat} {xs : Nat → List Nat} {v : Value} {H : HL} (h : FPR x y wi he n xs v H) :
    ∃ (x9 y9 w9 h9 : Int) (A9 : Option Addr) (n9 : Nat), v = .tuple #[.agg #[iv x9, iv y9, iv w9, iv h9, .slice A9 n9 n9], iv (fpErr x y wi he n)] ∧ (fpErr x y wi he n ≠ 0 → n9 = 0) := by
  rcases h with ⟨h1, rfl, rfl⟩ | ⟨h1, g, N, hNN, rfl, rfl⟩
  · exact ⟨_, _, _, _, _, _, rfl, fun _ => rfl⟩
  · rw [h1]
    exact ⟨_, _, _, _, _, _, rfl, fun h => absurd rfl h⟩
/-- what the law makes of the planes -/
def wkErr (x y wi he : Int) (n : Nat → Nat) (k : Nat) : Int := if regErr x y wi he ≠ 0 then regErr x y wi he else if (List.range k).all (fun k => decide ((n k : Int) = wi * he)) = true then 0 else 2
theorem wk_start (x y wi he : Int) (n : Nat → Nat) : regErr x y wi he = wkErr x y wi he n 0 := by
  unfold wkErr
  split
  · rfl
  · rename_i h; simpa using h
theorem wk_zero {x y wi he : Int} {n : Nat → Nat} {k : Nat} (h : wkErr x y wi he n k = 0) : regErr x y wi he = 0 := by
  unfold wkErr at h
  split at h
  · exact h
  · rename_i h1; exact Decidable.not_not.1 h1
theorem wk_stay {x y wi he : Int} {n : Nat → Nat} {k : Nat} (h : wkErr x y wi he n k ≠ 0) : wkErr x y wi he n k = wkErr x y wi he n (k + 1) := by
  unfold wkErr at h ⊢
  split
  · rfl
  · rename_i h1
    rw [if_neg h1] at h
    rw [List.range_succ, List.all_append]
    split at h
    · exact absurd rfl h
    · rename_i h2
      rw [if_neg h2, if_neg (by simp only [Bool.and_eq_true]; exact fun h3 => h2 h3.1)]
theorem wk_bad {x y wi he : Int} {n : Nat → Nat} {k : Nat} (h : wkErr x y wi he n k = 0) (hn : (n k : Int) ≠ wi * he) : 2 = wkErr x y wi he n (k + 1) := by
  have h1 := wk_zero h
  unfold wkErr
  rw [if_neg (by simpa using h1), List.range_succ, List.all_append, if_neg (by simp [hn])]
theorem wk_good {x y wi he : Int} {n : Nat → Nat} {k : Nat} (h : wkErr x y wi he n k = 0) (hn : (n k : Int) = wi * he) : wkErr x y wi he n k = wkErr x y wi he n (k + 1) := by
  have h1 := wk_zero h
  rw [h]
  unfold wkErr at h ⊢
  rw [if_neg (by simpa using h1)] at h ⊢
  rw [List.range_succ, List.all_append]
  split at h
  · rename_i h2
    rw [if_pos (by rw [h2]; simp [hn])]
  · cases h
theorem wk_end (x y wi he : Int) (n : Nat → Nat) : wkErr x y wi he n 4 = fpErr x y wi he n := rfl

set_option maxRecDepth 100000 in
theorem planesMatch (x y wi he : Int) (A : Option Addr) (n c : Nat) (xs : List Nat) (ch rx ry rw_ rh : Int) (A9 : Nat → Option Addr) (n9 c9 : Nat → Nat) (xs9 : Nat → List Nat) (W : World) (hn : xs.length = n) (hA : FS W A xs) (hlx : n ≤ maxLen) (hbx : -9223372036854775808 ≤ rx ∧ rx ≤ 9223372036854775807) (hl9 : ∀ k, k < 4 → (xs9 k).length = n9 k) (hA9 : ∀ k, k < 4 → FS W (A9 k) (xs9 k)) : Fn_ Try.prog 5 #[.agg #[iv x, iv y, iv wi, iv he, .slice A n c], iv ch, .agg #[iv rx, iv ry, iv rw_, iv rh], .agg (plsv A9 n9 c9).toArray] W (fun v H => v = .bool true ∧ H = []) := by
  refine Fn_.intro Try.func5 rfl rfl (by rfl) ?_
  refine CS.seq ?_
  refine CS.region ?_
  refine RS.box rfl (by rfl) (by rfl) ?_
  intro g4
  refine RS.box rfl (by rfl) (by rfl) ?_
  intro g6
  refine RS.box rfl (by rfl) (by rfl) ?_
  intro g7
  refine RS.q rfl (QO.assign) ?_
  refine RS.nil ?_
  refine thenC_n ?_
  refine CS.seq ?_
  refine CS.seq ?_
  refine CS.region ?_
  refine RS.call rfl (by rfl) ok19 (by rfl) (fun w ho => landed _) ?_
  rintro _ _ ⟨rfl, rfl⟩
  refine RS.q rfl (QO.not (by rfl)) ?_
  refine RS.nil ?_
  refine thenC_n ?_
  refine CS.condF (by rfl) rfl ?_
  refine CS.skip ?_
  refine thenC_n ?_
  refine CS.seq ?_
  refine CS.region ?_
  first | (refine RS.q rfl (QO.loadB ty26 (by rfl) (by repeat (first | exact List.Mem.head _ | refine List.Mem.tail _ ?_)) (by rfl)) ?_) | (refine RS.q rfl (QO.loadA ty26 (by rfl) (by repeat (first | exact List.Mem.head _ | refine List.Mem.tail _ ?_)) (by rfl) (by rfl)) ?_) | (refine RS.q rfl (QO.loadOA ty26 (by rfl) (by assumption) (by rfl)) ?_)
  refine RS.call rfl (by rfl) ok20 (by rfl) (fun w ho => fit' x y wi he A n c xs w hn (hA.own ho) hlx) ?_
  intro v20 H20 h20
  obtain ⟨gf, X, Y, a, b, ys, rfl, rfl, hys, ha, hb, hX, hY, hab⟩ := h20
  have hr := regErr_small ha hb hX hY
  have hcast : ((a * b : Nat) : Int) = (a : Int) * (b : Int) := Int.natCast_mul ..
  have hmx : ys.length ≤ maxLen := by unfold maxLen; omega
  first | refine RS.storeB ty26 (by rfl) (by rfl) (by rfl) (by rfl) (by rfl) (by repeat (first | exact Upd.head | apply Upd.tail)) (by rfl) ?_ | refine RS.storeP ty26 (by rfl) (by rfl) (by rfl) (by rfl) (by rfl) (by repeat (first | exact Upd.head | apply Upd.tail)) (by rfl) ?_
  refine RS.nil ?_
  refine thenC_n ?_
  refine CS.seq ?_
  refine CS.region ?_
  first | (refine RS.q rfl (QO.loadB ty26 (by rfl) (by repeat (first | exact List.Mem.head _ | refine List.Mem.tail _ ?_)) (by rfl)) ?_) | (refine RS.q rfl (QO.loadA ty26 (by rfl) (by repeat (first | exact List.Mem.head _ | refine List.Mem.tail _ ?_)) (by rfl) (by rfl)) ?_) | (refine RS.q rfl (QO.loadOA ty26 (by rfl) (by assumption) (by rfl)) ?_)
  refine RS.q rfl (QO.move) ?_
  refine RS.call rfl (by rfl) ok29 (by rfl) (fun w ho => plane' X Y a b _ _ _ ys ch w rfl (FS.blk' ho (by repeat (first | exact List.Mem.head _ | refine List.Mem.tail _ ?_))) hys hr) ?_
  intro v24 H24 h24
  obtain ⟨Ap, np, ep, rfl, hpl⟩ := h24
  refine RS.perm List.perm_append_comm ?_
  refine RS.q rfl (QO.move) ?_
  refine RS.q rfl (QO.extract (by rfl) (by rfl)) ?_
  refine RS.q rfl (QO.extract (by rfl) (by rfl)) ?_
  refine RS.q rfl (QO.assign) ?_
  refine RS.q rfl (QO.assign) ?_
  refine RS.nil ?_
  refine thenC_n ?_
  refine CS.cut (X := Unit) (8 :: 27 :: 28 :: 29 :: 30 :: 31 :: 32 :: 33 :: 34 :: 35 :: 36 :: 37 :: 38 :: 39 :: 40 :: 41 :: 42 :: 43 :: 44 :: 45 :: 46 :: 47 :: 48 :: 49 :: []) (fun u => []) (fun u => [⟨gf, 33, ys.map flt⟩, ⟨g7, 44, plsv A9 n9 c9⟩, ⟨g6, 23, [iv rx, iv ry, iv rw_, iv rh]⟩, ⟨g4, 26, [iv X, iv Y, iv (a : Int), iv (b : Int), .slice (some ⟨gf, 0, none⟩) ys.length ys.length]⟩]) (fun u => True) ?_ ?_
  · refine CS.seq ?_
    refine CS.region ?_
    refine RS.q rfl (QO.move) ?_
    refine RS.q rfl (QO.lss (by rfl) (by rfl)) ?_
    refine RS.q rfl (QO.move) ?_
    refine RS.split (dj := 29) (by rfl) (fun hb0 => ?_) (fun hb0 => ?_)
    · have hb0p := of_decide_eq_true hb0
      refine RS.off (dj := 29) rfl (.inl (congrArg Value.bool hb0)) (fun _ => rfl) rfl ?_
      refine RS.off (dj := 29) rfl (.inl (congrArg Value.bool hb0)) (fun _ => rfl) rfl ?_
      refine RS.q rfl (QO.pickT (by rfl) hb0 (by rfl)) ?_
      refine RS.nil ?_
      refine thenC_n ?_
      refine CS.condT (by rfl) rfl ?_
      refine CS.seq ?_
      refine CS.region ?_
      obtain ⟨_, rfl, hnp0, rfl⟩ := hpl.resolve_right (fun hh => by omega)
      refine RS.q rfl (QO.move) ?_
      refine RS.q rfl (QO.neq (by rfl) (by rfl)) ?_
      refine RS.q rfl (QO.move) ?_
      refine RS.on (dj := 35) rfl (congrArg Value.bool rfl) ?_
      refine RS.q rfl (QO.move) ?_
      refine RS.on (dj := 35) rfl (congrArg Value.bool rfl) ?_
      refine RS.q rfl (QO.lenS Try.underlying24 (by rfl)) ?_
      refine RS.on (dj := 35) rfl (congrArg Value.bool rfl) ?_
      refine RS.q rfl (QO.gtr (by rfl) (by rfl)) ?_
      refine RS.q rfl (QO.pickF (by rfl) rfl (by rfl)) ?_
      refine RS.nil ?_
      refine thenC_n ?_
      refine CS.condF (by rfl) (by rw [hnp0]; rfl) ?_
      refine CS.skip ?_
      refine cutQ_n (by intro t ht; repeat (first | with_reducible exact rfl | exact frame_puts ht (frame_mix ht) _ rfl | (refine frame_put rfl ht ?_) | (refine frame_puts ht ?_ _ rfl) | exact frame_mix ht | (refine frame_mix2 rfl ht ?_) | exact rfl)) ?_
      exact ⟨(), trivial, (by repeat (first | exact kn_nil | refine kn_cons (by rfl) ?_)), (by repeat (first | exact List.Sublist.refl _ | exact List.nil_sublist _ | refine List.Sublist.cons_cons _ ?_ | refine List.Sublist.cons _ ?_ | exact Sbp.refl | exact Sbp.nil | refine Sbp.cons (by repeat (first | exact Rem.head | apply Rem.tail)) ?_ | exact Sbp.app | refine Sbp.skip ?_))⟩
    · have hb0p := of_decide_eq_false hb0
      refine RS.on (dj := 29) rfl (congrArg Value.bool hb0) ?_
      refine RS.q rfl (QO.move) ?_
      refine RS.on (dj := 29) rfl (congrArg Value.bool hb0) ?_
      refine RS.q rfl (QO.gtr (by rfl) (by rfl)) ?_
      refine RS.q rfl (QO.pickF (by rfl) hb0 (by rfl)) ?_
      refine RS.nil ?_
      refine thenC_n ?_
      refine CS.cond (by rfl) (fun hb1 => ?_) (fun hb1 => ?_)
      · have hb1p := of_decide_eq_true hb1
        refine CS.seq ?_
        refine CS.region ?_
        obtain ⟨_, rfl, hnp0, rfl⟩ := hpl.resolve_right (fun hh => by omega)
        refine RS.q rfl (QO.move) ?_
        refine RS.q rfl (QO.neq (by rfl) (by rfl)) ?_
        refine RS.q rfl (QO.move) ?_
        refine RS.on (dj := 35) rfl (congrArg Value.bool rfl) ?_
        refine RS.q rfl (QO.move) ?_
        refine RS.on (dj := 35) rfl (congrArg Value.bool rfl) ?_
        refine RS.q rfl (QO.lenS Try.underlying24 (by rfl)) ?_
        refine RS.on (dj := 35) rfl (congrArg Value.bool rfl) ?_
        refine RS.q rfl (QO.gtr (by rfl) (by rfl)) ?_
        refine RS.q rfl (QO.pickF (by rfl) rfl (by rfl)) ?_
        refine RS.nil ?_
        refine thenC_n ?_
        refine CS.condF (by rfl) (by rw [hnp0]; rfl) ?_
        refine CS.skip ?_
        refine cutQ_n (by intro t ht; repeat (first | with_reducible exact rfl | exact frame_puts ht (frame_mix ht) _ rfl | (refine frame_put rfl ht ?_) | (refine frame_puts ht ?_ _ rfl) | exact frame_mix ht | (refine frame_mix2 rfl ht ?_) | exact rfl)) ?_
        exact ⟨(), trivial, (by repeat (first | exact kn_nil | refine kn_cons (by rfl) ?_)), (by repeat (first | exact List.Sublist.refl _ | exact List.nil_sublist _ | refine List.Sublist.cons_cons _ ?_ | refine List.Sublist.cons _ ?_ | exact Sbp.refl | exact Sbp.nil | refine Sbp.cons (by repeat (first | exact Rem.head | apply Rem.tail)) ?_ | exact Sbp.app | refine Sbp.skip ?_))⟩
      · have hb1p := of_decide_eq_false hb1
        refine CS.seq ?_
        refine CS.region ?_
        obtain ⟨hpl0, hpl1, rfl, rfl, gp0, rfl, rfl⟩ := hpl.resolve_left (fun hh => by omega)
        refine RS.q rfl (QO.move) ?_
        refine RS.q rfl (QO.neq (by rfl) (by rfl)) ?_
        refine RS.q rfl (QO.move) ?_
        refine RS.on (dj := 42) rfl (congrArg Value.bool rfl) ?_
        refine RS.q rfl (QO.move) ?_
        refine RS.on (dj := 42) rfl (congrArg Value.bool rfl) ?_
        first | (refine RS.q rfl (QO.loadB ty26 (by rfl) (by repeat (first | exact List.Mem.head _ | refine List.Mem.tail _ ?_)) (by rfl)) ?_) | (refine RS.q rfl (QO.loadA ty26 (by rfl) (by repeat (first | exact List.Mem.head _ | refine List.Mem.tail _ ?_)) (by rfl) (by rfl)) ?_) | (refine RS.q rfl (QO.loadOA ty26 (by rfl) (by assumption) (by rfl)) ?_)
        refine RS.on (dj := 42) rfl (congrArg Value.bool rfl) ?_
        refine RS.q rfl (QO.move) ?_
        refine RS.on (dj := 42) rfl (congrArg Value.bool rfl) ?_
        refine RS.call rfl (by rfl) ok31 (by rfl) (fun w ho => rplane X Y a b _ _ _ ys ch (a * b) w rfl (FS.blk' ho (by repeat (first | exact List.Mem.head _ | refine List.Mem.tail _ ?_))) hys (by omega) hpl0 hpl1) ?_
        intro v46 H46 hrow
        obtain ⟨gq, cq, jq, rfl, rfl, hq1, hq2, _⟩ := hrow.some (by have := Nat.mul_le_mul ha.1 hb.1; omega)
        refine RS.on (dj := 42) rfl (congrArg Value.bool rfl) ?_
        refine RS.call rfl (by rfl) ok30 (by rfl) (fun w ho => eqF _ _ _ _ _ _ (planeV ys ch (a * b)) (planeV ys ch (a * b)) w rfl rfl (planeV_len _ _ _) (planeV_len _ _ _) (FS.blk' ho (by repeat (first | exact List.Mem.head _ | refine List.Mem.tail _ ?_))) (FS.blk ho (by repeat (first | exact List.Mem.head _ | refine List.Mem.tail _ ?_))) (by unfold maxLen; omega)) ?_
        rintro _ _ ⟨rfl, rfl⟩
        refine RS.on (dj := 42) rfl (congrArg Value.bool rfl) ?_
        refine RS.q rfl (QO.not (by rfl)) ?_
        refine RS.q rfl (QO.pickF (by rfl) rfl (by rfl)) ?_
        refine RS.nil ?_
        refine thenC_n ?_
        refine CS.condF (by rfl) rfl ?_
        refine CS.skip ?_
        refine cutQ_n (by intro t ht; repeat (first | with_reducible exact rfl | exact frame_puts ht (frame_mix ht) _ rfl | (refine frame_put rfl ht ?_) | (refine frame_puts ht ?_ _ rfl) | exact frame_mix ht | (refine frame_mix2 rfl ht ?_) | exact rfl)) ?_
        exact ⟨(), trivial, (by repeat (first | exact kn_nil | refine kn_cons (by rfl) ?_)), (by repeat (first | exact List.Sublist.refl _ | exact List.nil_sublist _ | refine List.Sublist.cons_cons _ ?_ | refine List.Sublist.cons _ ?_ | exact Sbp.refl | exact Sbp.nil | refine Sbp.cons (by repeat (first | exact Rem.head | apply Rem.tail)) ?_ | exact Sbp.app | refine Sbp.skip ?_))⟩
  · intro u gj hz
    refine CS.seq ?_
    refine CS.region ?_
    refine RS.alloc rfl ty44 ?_
    intro g11
    refine RS.nil ?_
    refine thenC_n ?_
    refine CS.seq ?_
    refine CS.seq ?_
    refine CS.region ?_
    refine RS.q rfl (QO.move) ?_
    refine RS.nil ?_
    refine thenC_n ?_
    refine CS.block ?_
    refine CS.loop (X := Nat × (Nat → Nat) × HL) (12 :: 50 :: 51 :: 52 :: 53 :: 54 :: 55 :: 56 :: 57 :: 58 :: 59 :: 60 :: 61 :: []) (fun z => [(50, iv (z.1 : Int))]) (fun z => ⟨g11, 44, gsL z.2.1 (a * b) z.1⟩ :: ⟨gf, 33, ys.map flt⟩ :: ⟨g7, 44, plsv A9 n9 c9⟩ :: ⟨g6, 23, [iv rx, iv ry, iv rw_, iv rh]⟩ :: ⟨g4, 26, [iv X, iv Y, iv (a : Int), iv (b : Int), .slice (some ⟨gf, 0, none⟩) ys.length ys.length]⟩ :: z.2.2) (fun z => z.1 ≤ 4 ∧ ∀ j, j < z.1 → (⟨z.2.1 j, 33, (planeV ys (j : Int) (a * b)).map flt⟩ : B) ∈ z.2.2) (fun z => 4 - z.1) (0, fun _ => 0, []) ⟨Nat.zero_le _, fun j hj => by omega⟩ ?_ ?_ ?_
    · exact (by repeat (first | exact kn_nil | refine kn_cons (by rfl) ?_))
    · exact (by repeat (first | exact List.Sublist.refl _ | exact List.nil_sublist _ | refine List.Sublist.cons_cons _ ?_ | refine List.Sublist.cons _ ?_ | exact Sbp.refl | exact Sbp.nil | refine Sbp.cons (by repeat (first | exact Rem.head | apply Rem.tail)) ?_ | exact Sbp.app | refine Sbp.skip ?_))
    · intro z gj12 hz
      obtain ⟨k, G, Hs⟩ := z
      obtain ⟨hk, hz⟩ := hz
      simp only at hk hz
      refine CS.seq ?_
      refine CS.region ?_
      refine RS.q rfl (QO.lss (by rfl) (by rfl)) ?_
      refine RS.nil ?_
      refine thenC_n ?_
      refine CS.seq ?_
      refine CS.cond (by rfl) (fun hb2 => ?_) (fun hb2 => ?_)
      · have hb2p := of_decide_eq_true hb2
        refine CS.skip ?_
        refine thenC_n ?_
        refine CS.seq ?_
        refine CS.block ?_
        refine CS.seq ?_
        refine CS.region ?_
        refine RS.q rfl (QO.move) ?_
        refine RS.q rfl (QO.assign) ?_
        refine RS.nil ?_
        refine thenC_n ?_
        refine CS.region ?_
        refine RS.q rfl (QO.move) ?_
        first | (refine RS.q rfl (QO.loadB ty26 (by rfl) (by repeat (first | exact List.Mem.head _ | refine List.Mem.tail _ ?_)) (by rfl)) ?_) | (refine RS.q rfl (QO.loadA ty26 (by rfl) (by repeat (first | exact List.Mem.head _ | refine List.Mem.tail _ ?_)) (by rfl) (by rfl)) ?_) | (refine RS.q rfl (QO.loadOA ty26 (by rfl) (by assumption) (by rfl)) ?_)
        refine RS.q rfl (QO.move) ?_
        refine RS.call rfl (by rfl) ok29 (by rfl) (fun w ho => plane' X Y a b _ _ _ ys (k : Int) w rfl (FS.blk' ho (by repeat (first | exact List.Mem.head _ | refine List.Mem.tail _ ?_))) hys hr) ?_
        intro v57 H57 h57
        obtain ⟨Aq, nq, eq, rfl, hpq⟩ := h57
        obtain ⟨_, _, rfl, rfl, gp, rfl, rfl⟩ := hpq.resolve_left (fun hh => by omega)
        refine RS.perm perm5 ?_
        refine RS.q rfl (QO.move) ?_
        refine RS.q rfl (QO.extract (by rfl) (by rfl)) ?_
        refine RS.q rfl (QO.extract (by rfl) (by rfl)) ?_
        first | (refine RS.q rfl (QO.idxArr0 Try.underlying44 ty24 (by rfl) (by rfl) (by rfl) (by omega)) ?_) | (refine RS.q rfl (QO.idxArrn Try.underlying44 ty24 (by rfl) (by rfl) (by rfl) (by omega)) ?_) | (refine RS.q rfl (QO.idxArr Try.underlying44 ty24 (by rfl) (by rfl) (by omega) (by omega)) ?_)
        refine RS.store1e ty24 rfl (by rfl) (by rfl) (by rfl) (gsL_set G (a * b) k gp (by omega)) (by repeat (first | exact Upd.head | apply Upd.tail)) (by simp [gsL]; omega) ?_
        refine RS.nil ?_
        refine blockC_n ?_
        refine thenC_n ?_
        refine CS.region ?_
        first | (refine RS.q rfl (QO.add (by rfl) (by rfl) (by omega) (by omega)) ?_) | (refine RS.q rfl (QO.ibin (by rfl) (by rfl) trivial) ?_)
        refine RS.q rfl (QO.move) ?_
        refine RS.nil ?_
        refine loopQ_n (by intro t ht; repeat (first | with_reducible exact rfl | exact frame_puts ht (frame_mix ht) _ rfl | (refine frame_put rfl ht ?_) | (refine frame_puts ht ?_ _ rfl) | exact frame_mix ht | (refine frame_mix2 rfl ht ?_) | exact rfl)) ?_
        exact ⟨(k + 1, (fun j => if j = k then gp else G j), ⟨gp, 33, (planeV ys (k : Int) (a * b)).map flt⟩ :: Hs), ⟨by show k + 1 ≤ 4; omega, fun j hj => by
            by_cases e : j = k
            · subst e; simp
            · simp only [if_neg e]; exact List.Mem.tail _ (hz j (by simp only at hj; omega))⟩, by show 4 - (k + 1) < 4 - k; omega, (by repeat (first | exact kn_nil | refine kn_cons (by rfl) ?_)), (by repeat (first | exact List.Sublist.refl _ | exact List.nil_sublist _ | refine List.Sublist.cons_cons _ ?_ | refine List.Sublist.cons _ ?_ | exact Sbp.refl | exact Sbp.nil | refine Sbp.cons (by repeat (first | exact Rem.head | apply Rem.tail)) ?_ | exact Sbp.app | refine Sbp.skip ?_))⟩
      · have hb2p := of_decide_eq_false hb2
        refine CS.exit ?_
        refine thenC_x ?_
        refine loopQ_x ?_
        refine blockC_x ?_
        refine thenC_n ?_
        refine CS.seq ?_
        refine CS.region ?_
        obtain rfl : k = 4 := by omega
        refine RS.q rfl (QO.fieldAddr fo26_0 (by rfl)) ?_
        first | (refine RS.q rfl (QO.loadB ty23 (by rfl) (by repeat (first | exact List.Mem.head _ | refine List.Mem.tail _ ?_)) (by rfl)) ?_) | (refine RS.q rfl (QO.loadA ty23 (by rfl) (by repeat (first | exact List.Mem.head _ | refine List.Mem.tail _ ?_)) (by rfl) (by rfl)) ?_) | (refine RS.q rfl (QO.loadOA ty23 (by rfl) (by assumption) (by rfl)) ?_)
        first | (refine RS.q rfl (QO.loadB ty44 (by rfl) (by repeat (first | exact List.Mem.head _ | refine List.Mem.tail _ ?_)) (by rfl)) ?_) | (refine RS.q rfl (QO.loadA ty44 (by rfl) (by repeat (first | exact List.Mem.head _ | refine List.Mem.tail _ ?_)) (by rfl) (by rfl)) ?_) | (refine RS.q rfl (QO.loadOA ty44 (by rfl) (by assumption) (by rfl)) ?_)
        refine RS.call rfl (by rfl) ok32 (by rfl) (fun w ho => fromPlanes X Y a b (fun i => some ⟨G i, 0, none⟩) (fun _ => a * b) (fun _ => a * b) (fun i => planeV ys (i : Int) (a * b)) w (fun k hk => planeV_len _ _ _) (fun k hk => FS.blk' ho (by repeat (first | exact hz k hk | refine List.Mem.tail _ ?_)))) ?_
        intro v66 H66 h66
        obtain ⟨ge, rfl, rfl⟩ := FPR.ok hr hys h66
        refine RS.q rfl (QO.move) ?_
        refine RS.q rfl (QO.extract (by rfl) (by rfl)) ?_
        refine RS.q rfl (QO.extract (by rfl) (by rfl)) ?_
        refine RS.alloc rfl ty26 ?_
        intro g13
        first | refine RS.storeB ty26 (by rfl) (by rfl) (by rfl) (by rfl) (by rfl) (by repeat (first | exact Upd.head | apply Upd.tail)) (by rfl) ?_ | refine RS.storeP ty26 (by rfl) (by rfl) (by rfl) (by rfl) (by rfl) (by repeat (first | exact Upd.head | apply Upd.tail)) (by rfl) ?_
        refine RS.q rfl (QO.assign) ?_
        refine RS.nil ?_
        refine thenC_n ?_
        refine CS.seq ?_
        refine CS.seq ?_
        refine CS.draw 9 rfl (by kernel_rfl) (by kernel_rfl) ?_
        refine RT.take (i := 0) rfl (by kernel_rfl) rfl (QO.move) ?_
        refine RT.take (i := 1) rfl (by kernel_rfl) rfl (QO.neq (by rfl) (by rfl)) ?_
        refine RT.take (i := 2) rfl (by kernel_rfl) rfl (QO.move) ?_
        first | (refine RT.takeOn (i := 3) (dj := 71) rfl rfl (congrArg Value.bool rfl) (by kernel_rfl) rfl (QO.loadB ty26 (by rfl) (by repeat (first | exact List.Mem.head _ | refine List.Mem.tail _ ?_)) (by rfl)) ?_) | (refine RT.takeOn (i := 3) (dj := 71) rfl rfl (congrArg Value.bool rfl) (by kernel_rfl) rfl (QO.loadA ty26 (by rfl) (by repeat (first | exact List.Mem.head _ | refine List.Mem.tail _ ?_)) (by rfl) (by rfl)) ?_) | (refine RT.takeOn (i := 3) (dj := 71) rfl rfl (congrArg Value.bool rfl) (by kernel_rfl) rfl (QO.loadOA ty26 (by rfl) (by assumption) (by rfl)) ?_)
        first | (refine RT.takeOn (i := 4) (dj := 71) rfl rfl (congrArg Value.bool rfl) (by kernel_rfl) rfl (QO.loadB ty26 (by rfl) (by repeat (first | exact List.Mem.head _ | refine List.Mem.tail _ ?_)) (by rfl)) ?_) | (refine RT.takeOn (i := 4) (dj := 71) rfl rfl (congrArg Value.bool rfl) (by kernel_rfl) rfl (QO.loadA ty26 (by rfl) (by repeat (first | exact List.Mem.head _ | refine List.Mem.tail _ ?_)) (by rfl) (by rfl)) ?_) | (refine RT.takeOn (i := 4) (dj := 71) rfl rfl (congrArg Value.bool rfl) (by kernel_rfl) rfl (QO.loadOA ty26 (by rfl) (by assumption) (by rfl)) ?_)
        refine RT.one (i := 5) (by kernel_rfl) rfl rfl ?_
        refine RS.on (dj := 71) rfl (congrArg Value.bool rfl) ?_
        refine RS.call rfl (by rfl) ok34 (by rfl) (fun w ho => rclean X Y a b _ _ _ ys w rfl (FS.blk' ho (by repeat (first | exact List.Mem.head _ | refine List.Mem.tail _ ?_))) hys (Nat.le_refl _) (by omega) (by omega) (by omega) (by omega)) ?_
        intro v74 H74 h74
        obtain ⟨gc, cc, jc, rfl, rfl, hcc, hcx⟩ := h74
        refine RS.nil ⟨(by repeat (first | exact List.Sublist.refl _ | exact List.nil_sublist _ | refine List.Sublist.cons_cons _ ?_ | refine List.Sublist.cons _ ?_ | exact Sbp.refl | exact Sbp.nil | refine Sbp.cons (by repeat (first | exact Rem.head | apply Rem.tail)) ?_ | exact Sbp.app | refine Sbp.skip ?_)), ?_⟩
        refine RT.one (i := 6) (by kernel_rfl) rfl rfl ?_
        refine RS.on (dj := 71) rfl (congrArg Value.bool rfl) ?_
        refine RS.call rfl (by rfl) ok33 (by rfl) (fun w ho => sameTrue X Y a b _ _ _ _ _ _ (ys.map cl) w (by simp) (by simp) (FS.blk' ho (by repeat (first | exact List.Mem.head _ | refine List.Mem.tail _ ?_))) (FS.blk ho (by repeat (first | exact List.Mem.head _ | refine List.Mem.tail _ ?_))) hmx) ?_
        rintro _ _ ⟨rfl, rfl⟩
        refine RS.nil ⟨(by repeat (first | exact List.Sublist.refl _ | exact List.nil_sublist _ | refine List.Sublist.cons_cons _ ?_ | refine List.Sublist.cons _ ?_ | exact Sbp.refl | exact Sbp.nil | refine Sbp.cons (by repeat (first | exact Rem.head | apply Rem.tail)) ?_ | exact Sbp.app | refine Sbp.skip ?_)), ?_⟩
        refine RT.takeOn (i := 7) (dj := 71) rfl rfl (congrArg Value.bool rfl) (by kernel_rfl) rfl (QO.not (by rfl)) ?_
        refine RT.take (i := 8) rfl (by kernel_rfl) rfl (QO.pickF (by rfl) rfl (by rfl)) ?_
        refine RT.done (by kernel_rfl) ?_
        refine thenC_n ?_
        refine CS.condF (by rfl) rfl ?_
        refine CS.skip ?_
        refine thenC_n ?_
        refine CS.seq ?_
        refine CS.region ?_
        first | (refine RS.q rfl (QO.loadB ty23 (by rfl) (by repeat (first | exact List.Mem.head _ | refine List.Mem.tail _ ?_)) (by rfl)) ?_) | (refine RS.q rfl (QO.loadA ty23 (by rfl) (by repeat (first | exact List.Mem.head _ | refine List.Mem.tail _ ?_)) (by rfl) (by rfl)) ?_) | (refine RS.q rfl (QO.loadOA ty23 (by rfl) (by assumption) (by rfl)) ?_)
        first | (refine RS.q rfl (QO.loadB ty44 (by rfl) (by repeat (first | exact List.Mem.head _ | refine List.Mem.tail _ ?_)) (by rfl)) ?_) | (refine RS.q rfl (QO.loadA ty44 (by rfl) (by repeat (first | exact List.Mem.head _ | refine List.Mem.tail _ ?_)) (by rfl) (by rfl)) ?_) | (refine RS.q rfl (QO.loadOA ty44 (by rfl) (by assumption) (by rfl)) ?_)
        refine RS.call rfl (by rfl) ok32 (by rfl) (fun w ho => fromPlanes rx ry rw_ rh A9 n9 c9 xs9 w hl9 (fun k hk => (hA9 k hk).own ho)) ?_
        intro v81 H81 h81
        obtain ⟨x9, y9, w9, h9, A8, n8, rfl, hn8⟩ := h81.any
        refine RS.perm List.perm_append_comm ?_
        refine RS.q rfl (QO.move) ?_
        refine RS.q rfl (QO.extract (by rfl) (by rfl)) ?_
        refine RS.q rfl (QO.extract (by rfl) (by rfl)) ?_
        first | refine RS.storeB ty26 (by rfl) (by rfl) (by rfl) (by rfl) (by rfl) (by repeat (first | exact Upd.head | apply Upd.tail)) (by rfl) ?_ | refine RS.storeP ty26 (by rfl) (by rfl) (by rfl) (by rfl) (by rfl) (by repeat (first | exact Upd.head | apply Upd.tail)) (by rfl) ?_
        refine RS.q rfl (QO.assign) ?_
        refine RS.nil ?_
        refine thenC_n ?_
        refine CS.seq ?_
        refine CS.region ?_
        first | (refine RS.q rfl (QO.loadB ty23 (by rfl) (by repeat (first | exact List.Mem.head _ | refine List.Mem.tail _ ?_)) (by rfl)) ?_) | (refine RS.q rfl (QO.loadA ty23 (by rfl) (by repeat (first | exact List.Mem.head _ | refine List.Mem.tail _ ?_)) (by rfl) (by rfl)) ?_) | (refine RS.q rfl (QO.loadOA ty23 (by rfl) (by assumption) (by rfl)) ?_)
        refine RS.call rfl (by rfl) ok35 (by rfl) (fun w ho => regionError _ _ _ _ _ hbx) ?_
        rintro _ _ ⟨rfl, rfl⟩
        refine RS.q rfl (QO.assign) ?_
        refine RS.nil ?_
        refine thenC_n ?_
        refine CS.seq ?_
        refine CS.seq ?_
        refine CS.region ?_
        first | (refine RS.q rfl (QO.loadB ty44 (by rfl) (by repeat (first | exact List.Mem.head _ | refine List.Mem.tail _ ?_)) (by rfl)) ?_) | (refine RS.q rfl (QO.loadA ty44 (by rfl) (by repeat (first | exact List.Mem.head _ | refine List.Mem.tail _ ?_)) (by rfl) (by rfl)) ?_) | (refine RS.q rfl (QO.loadOA ty44 (by rfl) (by assumption) (by rfl)) ?_)
        refine RS.q rfl (QO.move) ?_
        refine RS.nil ?_
        refine thenC_n ?_
        refine CS.block ?_
        refine CS.loop (X := Nat) (14 :: 16 :: 87 :: 88 :: 89 :: 90 :: 91 :: 92 :: 93 :: 94 :: 95 :: 96 :: 97 :: 98 :: 99 :: 100 :: 101 :: 102 :: []) (fun k2 => [(87, iv (k2 : Int)), (14, iv (wkErr rx ry rw_ rh n9 k2))]) (fun k2 => [⟨g13, 26, [iv x9, iv y9, iv w9, iv h9, .slice A8 n8 n8]⟩, ⟨gf, 33, ys.map flt⟩, ⟨g7, 44, plsv A9 n9 c9⟩, ⟨g6, 23, [iv rx, iv ry, iv rw_, iv rh]⟩, ⟨g4, 26, [iv X, iv Y, iv (a : Int), iv (b : Int), .slice (some ⟨gf, 0, none⟩) ys.length ys.length]⟩]) (fun k2 => k2 ≤ 4) (fun k2 => 4 - k2) 0 (Nat.zero_le _) ?_ ?_ ?_
        · exact kn_cons (by rfl) (kn_cons (congrArg iv (wk_start _ _ _ _ _)) kn_nil)
        · exact (by repeat (first | exact List.Sublist.refl _ | exact List.nil_sublist _ | refine List.Sublist.cons_cons _ ?_ | refine List.Sublist.cons _ ?_ | exact Sbp.refl | exact Sbp.nil | refine Sbp.cons (by repeat (first | exact Rem.head | apply Rem.tail)) ?_ | exact Sbp.app | refine Sbp.skip ?_))
        · intro k2 gj22 hz
          refine CS.seq ?_
          refine CS.region ?_
          refine RS.q rfl (QO.lss (by rfl) (by rfl)) ?_
          refine RS.nil ?_
          refine thenC_n ?_
          refine CS.seq ?_
          refine CS.cond (by rfl) (fun hb3 => ?_) (fun hb3 => ?_)
          · have hb3p := of_decide_eq_true hb3
            refine CS.skip ?_
            refine thenC_n ?_
            refine CS.seq ?_
            refine CS.block ?_
            refine CS.seq ?_
            refine CS.region ?_
            refine RS.q rfl (QO.index1 Try.underlying44 ty24 (by rfl) (by rfl) (by omega) (by omega) (plsv_ati A9 n9 c9 k2 (by omega))) ?_
            refine RS.q rfl (QO.assign) ?_
            refine RS.nil ?_
            refine thenC_n ?_
            refine CS.seq ?_
            refine CS.region ?_
            refine RS.q rfl (QO.move) ?_
            refine RS.q rfl (QO.eql (by rfl) (by rfl)) ?_
            refine RS.q rfl (QO.move) ?_
            refine RS.split (dj := 92) (by rfl) (fun hb4 => ?_) (fun hb4 => ?_)
            · have hb4p := eq_of_beq hb4
              refine RS.on (dj := 92) rfl (congrArg Value.bool hb4) ?_
              refine RS.q rfl (QO.move) ?_
              refine RS.on (dj := 92) rfl (congrArg Value.bool hb4) ?_
              refine RS.q rfl (QO.lenS Try.underlying24 (by rfl)) ?_
              refine RS.on (dj := 92) rfl (congrArg Value.bool hb4) ?_
              have hwk := eq_of_beq ‹(wkErr rx ry rw_ rh n9 k2 == 0) = true›
              have hro := regErr_ok (wk_zero hwk)
              refine RS.q rfl (QO.fieldAddr fo23_2 (by rfl)) ?_
              refine RS.on (dj := 92) rfl (congrArg Value.bool hb4) ?_
              first | (refine RS.q rfl (QO.load ty3 (by rfl) (by repeat (first | exact List.Mem.head _ | refine List.Mem.tail _ ?_)) (by rfl)) ?_) | (refine RS.q rfl (QO.loadO ty3 (by rfl) (by assumption)) ?_) | (refine RS.q rfl (QO.load ty3 (by rfl) (by repeat (first | exact List.Mem.head _ | refine List.Mem.tail _ ?_)) (by assumption)) ?_)
              refine RS.on (dj := 92) rfl (congrArg Value.bool hb4) ?_
              refine RS.q rfl (QO.fieldAddr fo23_3 (by rfl)) ?_
              refine RS.on (dj := 92) rfl (congrArg Value.bool hb4) ?_
              first | (refine RS.q rfl (QO.load ty3 (by rfl) (by repeat (first | exact List.Mem.head _ | refine List.Mem.tail _ ?_)) (by rfl)) ?_) | (refine RS.q rfl (QO.loadO ty3 (by rfl) (by assumption)) ?_) | (refine RS.q rfl (QO.load ty3 (by rfl) (by repeat (first | exact List.Mem.head _ | refine List.Mem.tail _ ?_)) (by assumption)) ?_)
              refine RS.on (dj := 92) rfl (congrArg Value.bool hb4) ?_
              first | (refine RS.q rfl (QO.mul (by rfl) (by rfl) (by omega) (by omega)) ?_) | (refine RS.q rfl (QO.ibin (by rfl) (by rfl) trivial) ?_)
              refine RS.on (dj := 92) rfl (congrArg Value.bool hb4) ?_
              refine RS.q rfl (QO.neq (by rfl) (by rfl)) ?_
              refine RS.q rfl (QO.pickT (by rfl) hb4 (by rfl)) ?_
              refine RS.nil ?_
              refine thenC_n ?_
              refine CS.cond (by rfl) (fun hb5 => ?_) (fun hb5 => ?_)
              · have hb5p := bne_iff_ne.1 hb5
                refine CS.region ?_
                refine RS.q rfl (QO.assign) ?_
                refine RS.nil ?_
                refine blockC_n ?_
                refine thenC_n ?_
                refine CS.region ?_
                first | (refine RS.q rfl (QO.add (by rfl) (by rfl) (by omega) (by omega)) ?_) | (refine RS.q rfl (QO.ibin (by rfl) (by rfl) trivial) ?_)
                refine RS.q rfl (QO.move) ?_
                refine RS.nil ?_
                refine loopQ_n (by intro t ht; repeat (first | with_reducible exact rfl | exact frame_puts ht (frame_mix ht) _ rfl | (refine frame_put rfl ht ?_) | (refine frame_puts ht ?_ _ rfl) | exact frame_mix ht | (refine frame_mix2 rfl ht ?_) | exact rfl)) ?_
                exact ⟨k2 + 1, by omega, by omega, kn_cons (by rfl) (kn_cons (congrArg iv (wk_bad hwk (by assumption))) kn_nil), (by repeat (first | exact List.Sublist.refl _ | exact List.nil_sublist _ | refine List.Sublist.cons_cons _ ?_ | refine List.Sublist.cons _ ?_ | exact Sbp.refl | exact Sbp.nil | refine Sbp.cons (by repeat (first | exact Rem.head | apply Rem.tail)) ?_ | exact Sbp.app | refine Sbp.skip ?_))⟩
              · have hb5p := of_bne_false hb5
                refine CS.skip ?_
                refine blockC_n ?_
                refine thenC_n ?_
                refine CS.region ?_
                first | (refine RS.q rfl (QO.add (by rfl) (by rfl) (by omega) (by omega)) ?_) | (refine RS.q rfl (QO.ibin (by rfl) (by rfl) trivial) ?_)
                refine RS.q rfl (QO.move) ?_
                refine RS.nil ?_
                refine loopQ_n (by intro t ht; repeat (first | with_reducible exact rfl | exact frame_puts ht (frame_mix ht) _ rfl | (refine frame_put rfl ht ?_) | (refine frame_puts ht ?_ _ rfl) | exact frame_mix ht | (refine frame_mix2 rfl ht ?_) | exact rfl)) ?_
                exact ⟨k2 + 1, by omega, by omega, kn_cons (by rfl) (kn_cons (congrArg iv (wk_good hwk (by assumption))) kn_nil), (by repeat (first | exact List.Sublist.refl _ | exact List.nil_sublist _ | refine List.Sublist.cons_cons _ ?_ | refine List.Sublist.cons _ ?_ | exact Sbp.refl | exact Sbp.nil | refine Sbp.cons (by repeat (first | exact Rem.head | apply Rem.tail)) ?_ | exact Sbp.app | refine Sbp.skip ?_))⟩
            · have hb4p := ne_of_beq_false hb4
              refine RS.off (dj := 92) rfl (.inl (congrArg Value.bool hb4)) (fun _ => rfl) rfl ?_
              refine RS.off (dj := 92) rfl (.inl (congrArg Value.bool hb4)) (fun _ => rfl) rfl ?_
              refine RS.off (dj := 92) rfl (.inl (congrArg Value.bool hb4)) (fun _ => rfl) rfl ?_
              refine RS.off (dj := 92) rfl (.inl (congrArg Value.bool hb4)) (fun _ => rfl) rfl ?_
              refine RS.off (dj := 92) rfl (.inl (congrArg Value.bool hb4)) (fun _ => rfl) rfl ?_
              refine RS.off (dj := 92) rfl (.inl (congrArg Value.bool hb4)) (fun _ => rfl) rfl ?_
              refine RS.off (dj := 92) rfl (.inl (congrArg Value.bool hb4)) (fun _ => rfl) rfl ?_
              refine RS.off (dj := 92) rfl (.inl (congrArg Value.bool hb4)) (fun _ => rfl) rfl ?_
              refine RS.q rfl (QO.pickF (by rfl) hb4 (by rfl)) ?_
              refine RS.nil ?_
              refine thenC_n ?_
              refine CS.condF (by rfl) rfl ?_
              refine CS.skip ?_
              refine blockC_n ?_
              refine thenC_n ?_
              refine CS.region ?_
              first | (refine RS.q rfl (QO.add (by rfl) (by rfl) (by omega) (by omega)) ?_) | (refine RS.q rfl (QO.ibin (by rfl) (by rfl) trivial) ?_)
              refine RS.q rfl (QO.move) ?_
              refine RS.nil ?_
              refine loopQ_n (by intro t ht; repeat (first | with_reducible exact rfl | exact frame_puts ht (frame_mix ht) _ rfl | (refine frame_put rfl ht ?_) | (refine frame_puts ht ?_ _ rfl) | exact frame_mix ht | (refine frame_mix2 rfl ht ?_) | exact rfl)) ?_
              exact ⟨k2 + 1, by omega, by omega, kn_cons (by rfl) (kn_cons (congrArg iv (wk_stay (by assumption))) kn_nil), (by repeat (first | exact List.Sublist.refl _ | exact List.nil_sublist _ | refine List.Sublist.cons_cons _ ?_ | refine List.Sublist.cons _ ?_ | exact Sbp.refl | exact Sbp.nil | refine Sbp.cons (by repeat (first | exact Rem.head | apply Rem.tail)) ?_ | exact Sbp.app | refine Sbp.skip ?_))⟩
          · have hb3p := of_decide_eq_false hb3
            refine CS.exit ?_
            refine thenC_x ?_
            refine loopQ_x ?_
            refine blockC_x ?_
            refine thenC_n ?_
            refine CS.seq ?_
            refine CS.region ?_
            obtain rfl : k2 = 4 := by omega
            refine RS.q rfl (QO.move) ?_
            refine RS.q rfl (QO.move) ?_
            refine RS.qv rfl (QO.eql (by rfl) (by rfl)) (congrArg Value.bool (beq_self_eq_true (fpErr rx ry rw_ rh n9))) ?_
            refine RS.q rfl (QO.move) ?_
            refine RS.on (dj := 106) rfl (congrArg Value.bool rfl) ?_
            refine RS.q rfl (QO.move) ?_
            refine RS.on (dj := 106) rfl (congrArg Value.bool rfl) ?_
            refine RS.q rfl (QO.eql (by rfl) (by rfl)) ?_
            refine RS.on (dj := 106) rfl (congrArg Value.bool rfl) ?_
            refine RS.q rfl (QO.move) ?_
            refine RS.split (dj := 109) (by rfl) (fun hb6 => ?_) (fun hb6 => ?_)
            · have hb6p := eq_of_beq hb6
              refine RS.off (dj := 109) rfl (.inl (congrArg Value.bool hb6)) (fun _ => rfl) rfl ?_
              refine RS.off (dj := 109) rfl (.inl (congrArg Value.bool hb6)) (fun _ => rfl) rfl ?_
              refine RS.off (dj := 109) rfl (.inl (congrArg Value.bool hb6)) (fun _ => rfl) rfl ?_
              refine RS.off (dj := 109) rfl (.inl (congrArg Value.bool hb6)) (fun _ => rfl) rfl ?_
              refine RS.on (dj := 106) rfl (congrArg Value.bool rfl) ?_
              refine RS.q rfl (QO.pickT (by rfl) hb6 (by rfl)) ?_
              refine RS.q rfl (QO.pickT (by rfl) rfl (by rfl)) ?_
              refine RS.q rfl (QO.assign) ?_
              refine RS.nil ?_
              refine thenC_n ?_
              refine CS.ret ?_
              refine retQ.mk (H' := []) (.inr rfl) (RVs.tmp (by rfl) RVs.nil) (List.nil_sublist _) ?_
              exact ⟨rfl, rfl⟩
            · have hb6p := ne_of_beq_false hb6
              refine RS.on (dj := 109) rfl (congrArg Value.bool hb6) ?_
              refine RS.q rfl (QO.fieldAddr fo26_1 (by rfl)) ?_
              refine RS.on (dj := 109) rfl (congrArg Value.bool hb6) ?_
              first | (refine RS.q rfl (QO.load ty24 (by rfl) (by repeat (first | exact List.Mem.head _ | refine List.Mem.tail _ ?_)) (by rfl)) ?_) | (refine RS.q rfl (QO.loadO ty24 (by rfl) (by assumption)) ?_) | (refine RS.q rfl (QO.load ty24 (by rfl) (by repeat (first | exact List.Mem.head _ | refine List.Mem.tail _ ?_)) (by assumption)) ?_)
              refine RS.on (dj := 109) rfl (congrArg Value.bool hb6) ?_
              refine RS.q rfl (QO.lenS Try.underlying24 (by rfl)) ?_
              refine RS.on (dj := 109) rfl (congrArg Value.bool hb6) ?_
              refine RS.qv rfl (QO.eql (by rfl) (by rfl)) (congrArg Value.bool (show ((n8 : Int) == 0) = true from by rw [hn8 (by assumption)]; rfl)) ?_
              refine RS.on (dj := 106) rfl (congrArg Value.bool rfl) ?_
              refine RS.q rfl (QO.pickF (by rfl) hb6 (by rfl)) ?_
              refine RS.q rfl (QO.pickT (by rfl) rfl (by rfl)) ?_
              refine RS.q rfl (QO.assign) ?_
              refine RS.nil ?_
              refine thenC_n ?_
              refine CS.ret ?_
              refine retQ.mk (H' := []) (.inr rfl) (RVs.tmp (by rfl) RVs.nil) (List.nil_sublist _) ?_
              exact ⟨rfl, rfl⟩

end Go.Proofs.Ytplfeaikjgfhcaa
