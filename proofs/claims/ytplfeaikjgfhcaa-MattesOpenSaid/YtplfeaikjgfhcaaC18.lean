/-
  Contracts: squares of mattes. Conditions: as each theorem says.
-/
import Derived.Test.YtplfeaikjgfhcaaC17
namespace Go.Proofs.Ytplfeaikjgfhcaa
open Go Go.Proofs Go.RowKit



structure LSt where
  k : Nat
  g : Nat
  n : Nat
  cap : Nat
  cs : List Value
structure LOk (N : Nat) (z : LSt) : Prop where
  k : z.k ≤ N
  n : z.n ≤ z.cap
  cap : z.cap ≤ maxLen
  cs : z.cs.length = z.cap
theorem sqL_row {xs : List Nat} {s W W' i j p qm : Nat} (h : ∀ u, u < s → p + qm + u < xs.length) (hp : (i / W' + j) * W = p) (hq : i % W' = qm) (hs : 0 < s) :
    (sqL (fun k => xs.getD k 0) s W W' i (j * s)).map flt ++ ((xs.drop (p + qm)).take s).map flt = (sqL (fun k => xs.getD k 0) s W W' i ((j + 1) * s)).map flt := by
  rw [← List.map_append]
  congr 1
  unfold sqL
  rw [Nat.add_mul, Nat.one_mul, List.range_add, List.map_append]
  congr 1
  rw [List.map_map]
  apply List.ext_getElem
  · simp only [List.length_take, List.length_drop, List.length_map, List.length_range]
    have := h (s - 1) (by omega)
    omega
  · intro u h1 h2
    have hu : u < s := by simpa using h2
    simp only [List.getElem_take, List.getElem_drop, List.getElem_map, List.getElem_range, Function.comp]
    rw [getD_at xs _ (h u hu)]
    have e1 : (j * s + u) / s = j := by rw [Nat.mul_comm, Nat.mul_add_div hs, Nat.div_eq_of_lt hu, Nat.add_zero]
    have e2 : (j * s + u) % s = u := by rw [Nat.mul_comm, Nat.mul_add_mod, Nat.mod_eq_of_lt hu]
    rw [e1, e2, hp, hq]
theorem div_lt_of' {k w h : Nat} (hw : 0 < w) (hk : k < w * h) : k / w < h := by rw [Nat.div_lt_iff_lt_mul hw, Nat.mul_comm]; exact hk
theorem sqL_len (g : Nat → Nat) (s W W' i n : Nat) : (sqL g s W W' i n).length = n := by simp [sqL]
theorem row_full {g : Nat → Nat} {s S j a a2 k : Nat} {v : Value} {H : HL} (hrow : Row 33 1 v (j * s) ((sqL g s a a2 k (j * s)).map flt) H) (hj : j = s) (hS : S = s * s) (h0 : 0 < S) :
    ∃ gl cap cs, v = .slice (some ⟨gl, 0, none⟩) S cap ∧ H = [⟨gl, 33, (sqL g s a a2 k S).map flt ++ cs⟩] ∧ cap ≤ maxLen ∧ S + cs.length = cap ∧ S ≤ cap := by
  subst hj
  rw [← hS] at hrow
  obtain ⟨xs, hxs⟩ : ∃ xs, (sqL g j a a2 k S).map flt = xs := ⟨_, rfl⟩
  have hl : xs.length = S := by rw [← hxs, List.length_map, sqL_len]
  rw [hxs] at hrow ⊢
  cases hrow with
  | nil => omega
  | own hl hc hn hm => exact ⟨_, _, _, rfl, rfl, hm, by omega, hn⟩
theorem flt_one (l : List Nat) : (l.map flt).all (·.oneCell') = true := by
  rw [List.all_eq_true]
  intro v hv
  obtain ⟨x, _, rfl⟩ := List.mem_map.1 hv
  rfl

set_option maxHeartbeats 4000000 in
set_option maxRecDepth 100000 in
theorem around (X Y : Int) (a b : Nat) (A : Option Addr) (n c : Nat) (xs : List Nat) (r s S N2 a2 b2 : Nat) (fc : FuncId) (cap : Array Value) (G : List Nat → Nat) (W : World) (hn : xs.length = n) (hA : FS W A xs) (hN : n = a * b) (hc : n ≤ c) (hcm : c ≤ maxLen) (hre : mErr X Y a b n = 0) (hX : -1048576 ≤ X ∧ X ≤ 1048576) (hY : -1048576 ≤ Y ∧ Y ≤ 1048576) (ha : 1 ≤ a ∧ a ≤ 256) (hb : 1 ≤ b ∧ b ≤ 256) (hr : r ≤ 16) (hs : s = 2 * r + 1) (hS : S = s * s) (ha2 : a = a2 + 2 * r) (hb2 : b = b2 + 2 * r) (ha21 : 1 ≤ a2) (hb21 : 1 ≤ b2) (hN2 : N2 = a2 * b2) (hok : callOK Try.prog fc = true) (hf : ∀ wd Hd, Own W wd Hd → ∀ (g c : Nat) (l : List Nat), l.length = S → FS wd (some ⟨g, 0, none⟩) l → Fn_ Try.prog fc (.slice (some ⟨g, 0, none⟩) l.length c :: cap.toList).toArray wd (fun v H => v = flt (G l) ∧ H = [])) : Fn_ Try.prog 143 #[.agg #[iv X, iv Y, iv (a : Int), iv (b : Int), .slice A n c], iv (r : Int), .func (.func fc) #[] cap] W (fun v H => ∃ g, v = .tuple #[.agg #[iv (X + (r : Int)), iv (Y + (r : Int)), iv (a2 : Int), iv (b2 : Int), .slice (some ⟨g, 0, none⟩) N2 N2], iv 0] ∧ H = [⟨g, 33, ((List.range N2).map (fun i => cl (G (sqL (fun k => xs.getD k 0) s a a2 i S)))).map flt⟩]) := by
  have hpos := Nat.mul_le_mul ha.1 hb.1
  have hup := Nat.mul_le_mul ha.2 hb.2
  have hcm2 : c ≤ 9223372036854775807 := hcm
  obtain ⟨bA, oA, rfl, hcell⟩ := hA (by omega)
  have hSb : S ≤ 1089 := by
    have h9 := Nat.mul_le_mul (show s ≤ 33 by omega) (show s ≤ 33 by omega)
    omega
  have hS1 : s ≤ S := by
    have h9 := Nat.mul_le_mul_right s (show 1 ≤ s by omega)
    omega
  have hSi : (s : Int) * (s : Int) = (S : Int) := by rw [hS]; exact (Int.natCast_mul ..).symm
  have hNi : (a2 : Int) * (b2 : Int) = (N2 : Int) := by rw [hN2]; exact (Int.natCast_mul ..).symm
  have hN2b : N2 ≤ 65536 := by
    have h9 := Nat.mul_le_mul (show a2 ≤ 256 by omega) (show b2 ≤ 256 by omega)
    omega
  refine Fn_.intro Try.func143 rfl rfl (by rfl) ?_
  refine CS.seq ?_
  refine CS.region ?_
  refine RS.box rfl (by rfl) (by rfl) ?_
  intro g3
  refine RS.alloc rfl ty64 ?_
  intro g6
  refine RS.q rfl (QO.assign) ?_
  refine RS.nil ?_
  refine thenC_n ?_
  refine CS.seq ?_
  refine CS.seq ?_
  refine CS.region ?_
  first | (refine RS.q rfl (QO.loadB ty64 (by rfl) (by repeat (first | exact List.Mem.head _ | refine List.Mem.tail _ ?_)) (by rfl)) ?_) | (refine RS.q rfl (QO.loadA ty64 (by rfl) (by repeat (first | exact List.Mem.head _ | refine List.Mem.tail _ ?_)) (by rfl) (by rfl)) ?_) | (refine RS.q rfl (QO.loadOA ty64 (by rfl) (by assumption) (by rfl)) ?_)
  refine RS.call rfl (by rfl) ok47 (by rfl) (fun w ho => kcheckMatte _ _ _ _ _ _ _ _) ?_
  rintro _ _ ⟨rfl, rfl⟩
  refine RS.q rfl (QO.assign) ?_
  refine RS.nil ?_
  refine thenC_n ?_
  refine CS.seq ?_
  refine CS.region ?_
  refine RS.q rfl (QO.move) ?_
  refine RS.qv rfl (QO.neq (by rfl) (by rfl)) (congrArg Value.bool (show (mErr X Y (a : Int) (b : Int) n != 0) = false from by rw [hre]; rfl)) ?_
  refine RS.nil ?_
  refine thenC_n ?_
  refine CS.condF (by rfl) rfl ?_
  refine CS.skip ?_
  refine thenC_n ?_
  refine CS.seq ?_
  refine CS.seq ?_
  refine CS.region ?_
  refine RS.q rfl (QO.move) ?_
  refine RS.q rfl (QO.lss (by rfl) (by rfl)) ?_
  refine RS.q rfl (QO.move) ?_
  refine RS.on (dj := 24) rfl (congrArg Value.bool (decide_eq_false (by omega))) ?_
  refine RS.q rfl (QO.move) ?_
  refine RS.on (dj := 24) rfl (congrArg Value.bool (decide_eq_false (by omega))) ?_
  refine RS.q rfl (QO.gtr (by rfl) (by rfl)) ?_
  refine RS.q rfl (QO.pickF (by rfl) (decide_eq_false (by omega)) (by rfl)) ?_
  refine RS.nil ?_
  refine thenC_n ?_
  refine CS.condF (by rfl) (decide_eq_false (by omega)) ?_
  refine CS.skip ?_
  refine thenC_n ?_
  refine CS.seq ?_
  refine CS.region ?_
  refine RS.q rfl (QO.fieldAddr fo64_0 (by rfl)) ?_
  refine RS.q rfl (QO.fieldAddr fo23_0 (by rfl)) ?_
  first | (refine RS.q rfl (QO.load ty3 (by rfl) (by repeat (first | exact List.Mem.head _ | refine List.Mem.tail _ ?_)) (by rfl)) ?_) | (refine RS.q rfl (QO.loadO ty3 (by rfl) (by assumption)) ?_) | (refine RS.q rfl (QO.load ty3 (by rfl) (by repeat (first | exact List.Mem.head _ | refine List.Mem.tail _ ?_)) (by assumption)) ?_)
  refine RS.q rfl (QO.move) ?_
  first | (refine RS.q rfl (QO.add (by rfl) (by rfl) (by omega) (by omega)) ?_) | (refine RS.q rfl (QO.ibin (by rfl) (by rfl) trivial) ?_)
  refine RS.q rfl (QO.fieldAddr fo64_0 (by rfl)) ?_
  refine RS.q rfl (QO.fieldAddr fo23_1 (by rfl)) ?_
  first | (refine RS.q rfl (QO.load ty3 (by rfl) (by repeat (first | exact List.Mem.head _ | refine List.Mem.tail _ ?_)) (by rfl)) ?_) | (refine RS.q rfl (QO.loadO ty3 (by rfl) (by assumption)) ?_) | (refine RS.q rfl (QO.load ty3 (by rfl) (by repeat (first | exact List.Mem.head _ | refine List.Mem.tail _ ?_)) (by assumption)) ?_)
  refine RS.q rfl (QO.move) ?_
  first | (refine RS.q rfl (QO.add (by rfl) (by rfl) (by omega) (by omega)) ?_) | (refine RS.q rfl (QO.ibin (by rfl) (by rfl) trivial) ?_)
  refine RS.q rfl (QO.fieldAddr fo64_0 (by rfl)) ?_
  refine RS.q rfl (QO.fieldAddr fo23_2 (by rfl)) ?_
  first | (refine RS.q rfl (QO.load ty3 (by rfl) (by repeat (first | exact List.Mem.head _ | refine List.Mem.tail _ ?_)) (by rfl)) ?_) | (refine RS.q rfl (QO.loadO ty3 (by rfl) (by assumption)) ?_) | (refine RS.q rfl (QO.load ty3 (by rfl) (by repeat (first | exact List.Mem.head _ | refine List.Mem.tail _ ?_)) (by assumption)) ?_)
  refine RS.q rfl (QO.move) ?_
  first | (refine RS.q rfl (QO.mul (by rfl) (by rfl) (by omega) (by omega)) ?_) | (refine RS.q rfl (QO.ibin (by rfl) (by rfl) trivial) ?_)
  first | (refine RS.qv rfl (QO.sub (by rfl) (by rfl) (by omega) (by omega)) (congrArg iv (show (a : Int) - 2 * (r : Int) = (a2 : Int) by omega)) ?_) | (refine RS.qv rfl (QO.ibin (by rfl) (by rfl) trivial) (congrArg iv (show (a : Int) - 2 * (r : Int) = (a2 : Int) by omega)) ?_)
  refine RS.q rfl (QO.fieldAddr fo64_0 (by rfl)) ?_
  refine RS.q rfl (QO.fieldAddr fo23_3 (by rfl)) ?_
  first | (refine RS.q rfl (QO.load ty3 (by rfl) (by repeat (first | exact List.Mem.head _ | refine List.Mem.tail _ ?_)) (by rfl)) ?_) | (refine RS.q rfl (QO.loadO ty3 (by rfl) (by assumption)) ?_) | (refine RS.q rfl (QO.load ty3 (by rfl) (by repeat (first | exact List.Mem.head _ | refine List.Mem.tail _ ?_)) (by assumption)) ?_)
  refine RS.q rfl (QO.move) ?_
  first | (refine RS.q rfl (QO.mul (by rfl) (by rfl) (by omega) (by omega)) ?_) | (refine RS.q rfl (QO.ibin (by rfl) (by rfl) trivial) ?_)
  first | (refine RS.qv rfl (QO.sub (by rfl) (by rfl) (by omega) (by omega)) (congrArg iv (show (b : Int) - 2 * (r : Int) = (b2 : Int) by omega)) ?_) | (refine RS.qv rfl (QO.ibin (by rfl) (by rfl) trivial) (congrArg iv (show (b : Int) - 2 * (r : Int) = (b2 : Int) by omega)) ?_)
  refine RS.qv rfl (QO.build ty23 pl23 (by rfl)) ((show _ = Value.agg #[iv (X + (r : Int)), iv (Y + (r : Int)), iv (a2 : Int), iv (b2 : Int)] from rfl)) ?_
  refine RS.alloc rfl ty23 ?_
  intro g9
  first | refine RS.storeB ty23 (by rfl) (by rfl) (by rfl) (by rfl) (by rfl) (by repeat (first | exact Upd.head | apply Upd.tail)) (by rfl) ?_ | refine RS.storeP ty23 (by rfl) (by rfl) (by rfl) (by rfl) (by rfl) (by repeat (first | exact Upd.head | apply Upd.tail)) (by rfl) ?_
  refine RS.nil ?_
  refine thenC_n ?_
  refine CS.seq ?_
  refine CS.seq ?_
  refine CS.region ?_
  refine RS.q rfl (QO.fieldAddr fo23_2 (by rfl)) ?_
  first | (refine RS.q rfl (QO.load ty3 (by rfl) (by repeat (first | exact List.Mem.head _ | refine List.Mem.tail _ ?_)) (by rfl)) ?_) | (refine RS.q rfl (QO.loadO ty3 (by rfl) (by assumption)) ?_) | (refine RS.q rfl (QO.load ty3 (by rfl) (by repeat (first | exact List.Mem.head _ | refine List.Mem.tail _ ?_)) (by assumption)) ?_)
  refine RS.q rfl (QO.lss (by rfl) (by rfl)) ?_
  refine RS.q rfl (QO.move) ?_
  refine RS.on (dj := 55) rfl (congrArg Value.bool (decide_eq_false (by omega))) ?_
  refine RS.q rfl (QO.fieldAddr fo23_3 (by rfl)) ?_
  refine RS.on (dj := 55) rfl (congrArg Value.bool (decide_eq_false (by omega))) ?_
  first | (refine RS.q rfl (QO.load ty3 (by rfl) (by repeat (first | exact List.Mem.head _ | refine List.Mem.tail _ ?_)) (by rfl)) ?_) | (refine RS.q rfl (QO.loadO ty3 (by rfl) (by assumption)) ?_) | (refine RS.q rfl (QO.load ty3 (by rfl) (by repeat (first | exact List.Mem.head _ | refine List.Mem.tail _ ?_)) (by assumption)) ?_)
  refine RS.on (dj := 55) rfl (congrArg Value.bool (decide_eq_false (by omega))) ?_
  refine RS.q rfl (QO.lss (by rfl) (by rfl)) ?_
  refine RS.q rfl (QO.pickF (by rfl) (decide_eq_false (by omega)) (by rfl)) ?_
  refine RS.nil ?_
  refine thenC_n ?_
  refine CS.condF (by rfl) (decide_eq_false (by omega)) ?_
  refine CS.skip ?_
  refine thenC_n ?_
  refine CS.seq ?_
  refine CS.region ?_
  refine RS.q rfl (QO.move) ?_
  first | (refine RS.q rfl (QO.mul (by rfl) (by rfl) (by omega) (by omega)) ?_) | (refine RS.q rfl (QO.ibin (by rfl) (by rfl) trivial) ?_)
  first | (refine RS.qv rfl (QO.add (by rfl) (by rfl) (by omega) (by omega)) (congrArg iv (show 2 * (r : Int) + 1 = (s : Int) by omega)) ?_) | (refine RS.qv rfl (QO.ibin (by rfl) (by rfl) trivial) (congrArg iv (show 2 * (r : Int) + 1 = (s : Int) by omega)) ?_)
  refine RS.q rfl (QO.assign) ?_
  refine RS.nil ?_
  refine thenC_n ?_
  refine CS.seq ?_
  refine CS.region ?_
  refine RS.q rfl (QO.move) ?_
  refine RS.q rfl (QO.move) ?_
  refine RS.qv rfl (QO.mul (by rfl) (by rfl) (by rw [hSi]; omega) (by rw [hSi]; omega)) (congrArg iv (show (s : Int) * (s : Int) = (S : Int) from by rw [hS]; exact (Int.natCast_mul ..).symm)) ?_
  refine RS.make rfl Try.underlying24 ty33 (by rfl) (by rfl) (by omega) (by omega) (by omega) (by omega) ?_
  intro g67
  refine RS.q rfl (QO.assign) ?_
  refine RS.nil ?_
  refine thenC_n ?_
  refine CS.cut (X := Nat × Nat) [12, 68, 69, 70, 71, 72, 73, 74, 75] (fun z => [(12, .pointer (some ⟨z.1, 0, none⟩))]) (fun z => [⟨z.1, 64, [iv (X + (r : Int)), iv (Y + (r : Int)), iv (a2 : Int), iv (b2 : Int), .slice (some ⟨z.2, 0, none⟩) N2 N2]⟩, ⟨z.2, 33, partL (fun i => cl (G (sqL (fun k => xs.getD k 0) s a a2 i S))) N2 (0)⟩, ⟨g9, 23, [iv (X + (r : Int)), iv (Y + (r : Int)), iv (a2 : Int), iv (b2 : Int)]⟩, ⟨g6, 64, [iv 0, iv 0, iv 0, iv 0, .slice none 0 0]⟩, ⟨g3, 64, [iv X, iv Y, iv (a : Int), iv (b : Int), .slice (some ⟨bA, oA, none⟩) n c]⟩, ⟨g67, 33, List.replicate S (flt 0)⟩]) (fun z => True) ?_ ?_
  · refine CS.draw 9 rfl (by kernel_rfl) (by kernel_rfl) ?_
    first | (refine RT.take (i := 0) rfl (by kernel_rfl) rfl (QO.loadB ty23 (by rfl) (by repeat (first | exact List.Mem.head _ | refine List.Mem.tail _ ?_)) (by rfl)) ?_) | (refine RT.take (i := 0) rfl (by kernel_rfl) rfl (QO.loadA ty23 (by rfl) (by repeat (first | exact List.Mem.head _ | refine List.Mem.tail _ ?_)) (by rfl) (by rfl)) ?_) | (refine RT.take (i := 0) rfl (by kernel_rfl) rfl (QO.loadOA ty23 (by rfl) (by assumption) (by rfl)) ?_)
    refine RT.take (i := 1) rfl (by kernel_rfl) rfl (QO.fieldAddr fo23_2 (by rfl)) ?_
    first | (refine RT.take (i := 2) rfl (by kernel_rfl) rfl (QO.load ty3 (by rfl) (by repeat (first | exact List.Mem.head _ | refine List.Mem.tail _ ?_)) (by rfl)) ?_) | (refine RT.take (i := 2) rfl (by kernel_rfl) rfl (QO.loadO ty3 (by rfl) (by assumption)) ?_) | (refine RT.take (i := 2) rfl (by kernel_rfl) rfl (QO.load ty3 (by rfl) (by repeat (first | exact List.Mem.head _ | refine List.Mem.tail _ ?_)) (by assumption)) ?_)
    refine RT.take (i := 3) rfl (by kernel_rfl) rfl (QO.fieldAddr fo23_3 (by rfl)) ?_
    first | (refine RT.take (i := 4) rfl (by kernel_rfl) rfl (QO.load ty3 (by rfl) (by repeat (first | exact List.Mem.head _ | refine List.Mem.tail _ ?_)) (by rfl)) ?_) | (refine RT.take (i := 4) rfl (by kernel_rfl) rfl (QO.loadO ty3 (by rfl) (by assumption)) ?_) | (refine RT.take (i := 4) rfl (by kernel_rfl) rfl (QO.load ty3 (by rfl) (by repeat (first | exact List.Mem.head _ | refine List.Mem.tail _ ?_)) (by assumption)) ?_)
    refine RT.takev (i := 5) rfl (by kernel_rfl) rfl (QO.mul (by rfl) (by rfl) (by rw [hNi]; omega) (by rw [hNi]; omega)) (congrArg iv (show (a2 : Int) * (b2 : Int) = (N2 : Int) from by rw [hN2]; exact (Int.natCast_mul ..).symm)) ?_
    refine RT.two (i := 6) (j := 8) (by kernel_rfl) rfl rfl ?_ ?_
    · refine RS.make rfl Try.underlying24 ty33 (by rfl) (by rfl) (by omega) (by omega) (by omega) (by omega) ?_
      intro g74
      refine RS.nil ⟨(by repeat (first | exact List.Sublist.refl _ | exact List.nil_sublist _ | refine List.Sublist.cons_cons _ ?_ | refine List.Sublist.cons _ ?_ | exact Sbp.refl | exact Sbp.nil | refine Sbp.cons (by repeat (first | exact Rem.head | apply Rem.tail)) ?_ | exact Sbp.app | refine Sbp.skip ?_)), ?_⟩
      refine RT.takev (i := 7) rfl (by kernel_rfl) rfl (QO.build ty64 pl64 (by rfl)) ((show _ = Value.agg #[iv (X + (r : Int)), iv (Y + (r : Int)), iv (a2 : Int), iv (b2 : Int), .slice (some ⟨g74, 0, none⟩) N2 N2] from rfl)) ?_
      refine RT.one (i := 8) (by kernel_rfl) rfl rfl ?_
      refine RS.alloc rfl ty64 ?_
      intro g12
      refine RS.nil ⟨(by repeat (first | exact List.Sublist.refl _ | exact List.nil_sublist _ | refine List.Sublist.cons_cons _ ?_ | refine List.Sublist.cons _ ?_ | exact Sbp.refl | exact Sbp.nil | refine Sbp.cons (by repeat (first | exact Rem.head | apply Rem.tail)) ?_ | exact Sbp.app | refine Sbp.skip ?_)), ?_⟩
      refine RT.tail (i := 9) (by kernel_rfl) rfl rfl ?_
      first | refine RS.storeB ty64 (by rfl) (by rfl) (by rfl) (by rfl) (by rfl) (by repeat (first | exact Upd.head | apply Upd.tail)) (by rfl) ?_ | refine RS.storeP ty64 (by rfl) (by rfl) (by rfl) (by rfl) (by rfl) (by repeat (first | exact Upd.head | apply Upd.tail)) (by rfl) ?_
      refine RS.nil ?_
      refine RT.done (by kernel_rfl) ?_
      refine cutQ_n (by intro t ht; repeat (first | with_reducible exact rfl | exact frame_puts ht (frame_mix ht) _ rfl | (refine frame_put rfl ht ?_) | (refine frame_puts ht ?_ _ rfl) | exact frame_mix ht | (refine frame_mix2 rfl ht ?_) | exact rfl)) ?_
      exact ⟨(g12, g74), trivial, (by repeat (first | exact kn_nil | refine kn_cons (by rfl) ?_)), (by rw [partL_zero]; exact (by repeat (first | exact List.Sublist.refl _ | exact List.nil_sublist _ | refine List.Sublist.cons_cons _ ?_ | refine List.Sublist.cons _ ?_ | exact Sbp.refl | exact Sbp.nil | refine Sbp.cons (by repeat (first | exact Rem.head | apply Rem.tail)) ?_ | exact Sbp.app | refine Sbp.skip ?_)))⟩
    · refine RS.alloc rfl ty64 ?_
      intro g12
      refine RS.nil ⟨(by repeat (first | exact List.Sublist.refl _ | exact List.nil_sublist _ | refine List.Sublist.cons_cons _ ?_ | refine List.Sublist.cons _ ?_ | exact Sbp.refl | exact Sbp.nil | refine Sbp.cons (by repeat (first | exact Rem.head | apply Rem.tail)) ?_ | exact Sbp.app | refine Sbp.skip ?_)), ?_⟩
      refine RT.one (i := 6) (by kernel_rfl) rfl rfl ?_
      refine RS.make rfl Try.underlying24 ty33 (by rfl) (by rfl) (by omega) (by omega) (by omega) (by omega) ?_
      intro g74
      refine RS.nil ⟨(by repeat (first | exact List.Sublist.refl _ | exact List.nil_sublist _ | refine List.Sublist.cons_cons _ ?_ | refine List.Sublist.cons _ ?_ | exact Sbp.refl | exact Sbp.nil | refine Sbp.cons (by repeat (first | exact Rem.head | apply Rem.tail)) ?_ | exact Sbp.app | refine Sbp.skip ?_)), ?_⟩
      refine RT.takev (i := 7) rfl (by kernel_rfl) rfl (QO.build ty64 pl64 (by rfl)) ((show _ = Value.agg #[iv (X + (r : Int)), iv (Y + (r : Int)), iv (a2 : Int), iv (b2 : Int), .slice (some ⟨g74, 0, none⟩) N2 N2] from rfl)) ?_
      refine RT.tail (i := 9) (by kernel_rfl) rfl rfl ?_
      first | refine RS.storeB ty64 (by rfl) (by rfl) (by rfl) (by rfl) (by rfl) (by repeat (first | exact Upd.head | apply Upd.tail)) (by rfl) ?_ | refine RS.storeP ty64 (by rfl) (by rfl) (by rfl) (by rfl) (by rfl) (by repeat (first | exact Upd.head | apply Upd.tail)) (by rfl) ?_
      refine RS.nil ?_
      refine RT.done (by kernel_rfl) ?_
      refine cutQ_n (by intro t ht; repeat (first | with_reducible exact rfl | exact frame_puts ht (frame_mix ht) _ rfl | (refine frame_put rfl ht ?_) | (refine frame_puts ht ?_ _ rfl) | exact frame_mix ht | (refine frame_mix2 rfl ht ?_) | exact rfl)) ?_
      exact ⟨(g12, g74), trivial, (by repeat (first | exact kn_nil | refine kn_cons (by rfl) ?_)), (by rw [partL_zero]; exact (by repeat (first | exact List.Sublist.refl _ | exact List.nil_sublist _ | refine List.Sublist.cons_cons _ ?_ | refine List.Sublist.cons _ ?_ | exact Sbp.refl | exact Sbp.nil | refine Sbp.cons (by repeat (first | exact Rem.head | apply Rem.tail)) ?_ | exact Sbp.app | refine Sbp.skip ?_)))⟩
  · intro z gj hz
    obtain ⟨g, gm⟩ := z
    show CS _ _ _ _ _ (puts (mix _ _ _) [(12, .pointer (some ⟨g, 0, none⟩))]) ([⟨g, 64, [iv (X + (r : Int)), iv (Y + (r : Int)), iv (a2 : Int), iv (b2 : Int), .slice (some ⟨gm, 0, none⟩) N2 N2]⟩, ⟨gm, 33, partL (fun i => cl (G (sqL (fun k => xs.getD k 0) s a a2 i S))) N2 (0)⟩, ⟨g9, 23, [iv (X + (r : Int)), iv (Y + (r : Int)), iv (a2 : Int), iv (b2 : Int)]⟩, ⟨g6, 64, [iv 0, iv 0, iv 0, iv 0, .slice none 0 0]⟩, ⟨g3, 64, [iv X, iv Y, iv (a : Int), iv (b : Int), .slice (some ⟨bA, oA, none⟩) n c]⟩, ⟨g67, 33, List.replicate S (flt 0)⟩])
    refine CS.seq ?_
    refine CS.seq ?_
    refine CS.region ?_
    refine RS.q rfl (QO.fieldAddr fo64_1 (by rfl)) ?_
    first | (refine RS.q rfl (QO.load ty24 (by rfl) (by repeat (first | exact List.Mem.head _ | refine List.Mem.tail _ ?_)) (by rfl)) ?_) | (refine RS.q rfl (QO.loadO ty24 (by rfl) (by assumption)) ?_) | (refine RS.q rfl (QO.load ty24 (by rfl) (by repeat (first | exact List.Mem.head _ | refine List.Mem.tail _ ?_)) (by assumption)) ?_)
    refine RS.q rfl (QO.lenS Try.underlying24 (by rfl)) ?_
    refine RS.q rfl (QO.move) ?_
    refine RS.nil ?_
    refine thenC_n ?_
    refine CS.block ?_
    refine CS.loop (X := LSt) (11 :: 13 :: 14 :: 15 :: 79 :: 80 :: 81 :: 82 :: 83 :: 84 :: 85 :: 86 :: 87 :: 88 :: 89 :: 90 :: 91 :: 92 :: 93 :: 94 :: 95 :: 96 :: 97 :: 98 :: 99 :: 100 :: 101 :: 102 :: 103 :: 104 :: 105 :: 106 :: 107 :: 108 :: 109 :: 110 :: 111 :: 112 :: 113 :: 114 :: 115 :: 116 :: 117 :: 118 :: 119 :: 120 :: 121 :: []) (fun z => [(79, iv (z.k : Int)), (11, .slice (some ⟨z.g, 0, none⟩) z.n z.cap)]) (fun z => [⟨g, 64, [iv (X + (r : Int)), iv (Y + (r : Int)), iv (a2 : Int), iv (b2 : Int), .slice (some ⟨gm, 0, none⟩) N2 N2]⟩, ⟨gm, 33, partL (fun i => cl (G (sqL (fun k => xs.getD k 0) s a a2 i S))) N2 (z.k)⟩, ⟨g9, 23, [iv (X + (r : Int)), iv (Y + (r : Int)), iv (a2 : Int), iv (b2 : Int)]⟩, ⟨g6, 64, [iv 0, iv 0, iv 0, iv 0, .slice none 0 0]⟩, ⟨g3, 64, [iv X, iv Y, iv (a : Int), iv (b : Int), .slice (some ⟨bA, oA, none⟩) n c]⟩, ⟨z.g, 33, z.cs⟩]) (fun z => LOk N2 z) (fun z => N2 - z.k) ⟨0, g67, 0, S, List.replicate S (flt 0)⟩ ⟨Nat.zero_le _, Nat.zero_le _, (by show S ≤ maxLen; unfold maxLen; omega), List.length_replicate ..⟩ ?_ ?_ ?_
    · exact (by repeat (first | exact kn_nil | refine kn_cons (by rfl) ?_))
    · exact (by repeat (first | exact List.Sublist.refl _ | exact List.nil_sublist _ | refine List.Sublist.cons_cons _ ?_ | refine List.Sublist.cons _ ?_ | exact Sbp.refl | exact Sbp.nil | refine Sbp.cons (by repeat (first | exact Rem.head | apply Rem.tail)) ?_ | exact Sbp.app | refine Sbp.skip ?_))
    · intro z gj13 hz
      obtain ⟨k, gl, ln, cap_, cs⟩ := z
      obtain ⟨hk, hln, hcap, hcs⟩ := hz
      simp only at hk hln hcap hcs
      show CS _ _ _ _ _ (puts (mix _ _ _) [(79, iv (k : Int)), (11, .slice (some ⟨gl, 0, none⟩) ln cap_)]) ([⟨g, 64, [iv (X + (r : Int)), iv (Y + (r : Int)), iv (a2 : Int), iv (b2 : Int), .slice (some ⟨gm, 0, none⟩) N2 N2]⟩, ⟨gm, 33, partL (fun i => cl (G (sqL (fun k => xs.getD k 0) s a a2 i S))) N2 (k)⟩, ⟨g9, 23, [iv (X + (r : Int)), iv (Y + (r : Int)), iv (a2 : Int), iv (b2 : Int)]⟩, ⟨g6, 64, [iv 0, iv 0, iv 0, iv 0, .slice none 0 0]⟩, ⟨g3, 64, [iv X, iv Y, iv (a : Int), iv (b : Int), .slice (some ⟨bA, oA, none⟩) n c]⟩, ⟨gl, 33, cs⟩])
      refine CS.seq ?_
      refine CS.region ?_
      refine RS.q rfl (QO.lss (by rfl) (by rfl)) ?_
      refine RS.nil ?_
      refine thenC_n ?_
      refine CS.seq ?_
      refine CS.cond (by rfl) (fun hb0 => ?_) (fun hb0 => ?_)
      · have hb0p := of_decide_eq_true hb0
        refine CS.skip ?_
        refine thenC_n ?_
        refine CS.seq ?_
        refine CS.block ?_
        refine CS.seq ?_
        refine CS.region ?_
        have hkl : k < a2 * b2 := by omega
        have hx1 : ∃ q, k / a2 = q := ⟨_, rfl⟩
        have hx2 : ∃ q, k % a2 = q := ⟨_, rfl⟩
        obtain ⟨qd, hqd⟩ := hx1
        obtain ⟨qm, hqm⟩ := hx2
        have hqd2 : qd < b2 := by rw [← hqd]; exact div_lt_of' ha21 hkl
        have hqm2 : qm < a2 := by rw [← hqm]; exact Nat.mod_lt _ ha21
        refine RS.q rfl (QO.move) ?_
        refine RS.q rfl (QO.assign) ?_
        refine RS.nil ?_
        refine thenC_n ?_
        refine CS.seq ?_
        refine CS.region ?_
        refine RS.q rfl (QO.move) ?_
        refine RS.qv rfl (QO.cutHi Try.underlying24 ty33 (by rfl) (by rfl) (by omega) (by omega)) ((show Value.slice (some ⟨gl, 0, none⟩) 0 cap_ = Value.slice (some ⟨gl, 0, none⟩) 0 cap_ from rfl)) ?_
        refine RS.q rfl (QO.assign) ?_
        refine RS.nil ?_
        refine thenC_n ?_
        refine CS.cut (X := LSt) (11 :: 14 :: 15 :: 84 :: 85 :: 86 :: 87 :: 88 :: 89 :: 90 :: 91 :: 92 :: 93 :: 94 :: 95 :: 96 :: 97 :: 98 :: 99 :: 100 :: 101 :: 102 :: 103 :: 104 :: 105 :: 106 :: 107 :: 108 :: 109 :: 110 :: 111 :: 112 :: []) (fun z => [(11, .slice (some ⟨z.g, 0, none⟩) S z.cap)]) (fun z => [⟨g, 64, [iv (X + (r : Int)), iv (Y + (r : Int)), iv (a2 : Int), iv (b2 : Int), .slice (some ⟨gm, 0, none⟩) N2 N2]⟩, ⟨gm, 33, partL (fun i => cl (G (sqL (fun k => xs.getD k 0) s a a2 i S))) N2 (k)⟩, ⟨g9, 23, [iv (X + (r : Int)), iv (Y + (r : Int)), iv (a2 : Int), iv (b2 : Int)]⟩, ⟨g6, 64, [iv 0, iv 0, iv 0, iv 0, .slice none 0 0]⟩, ⟨g3, 64, [iv X, iv Y, iv (a : Int), iv (b : Int), .slice (some ⟨bA, oA, none⟩) n c]⟩, ⟨z.g, 33, (sqL (fun k => xs.getD k 0) s a a2 k (S)).map flt ++ z.cs⟩]) (fun z => z.cap ≤ maxLen ∧ S + z.cs.length = z.cap ∧ S ≤ z.cap) ?_ ?_
        · refine CS.seq ?_
          refine CS.region ?_
          refine RS.q rfl (QO.move) ?_
          refine RS.q rfl (QO.move) ?_
          refine RS.nil ?_
          refine thenC_n ?_
          refine CS.block ?_
          refine CS.loop (X := Nat × Value × HL) (11 :: 14 :: 15 :: 85 :: 86 :: 87 :: 88 :: 89 :: 90 :: 91 :: 92 :: 93 :: 94 :: 95 :: 96 :: 97 :: 98 :: 99 :: 100 :: 101 :: 102 :: 103 :: 104 :: 105 :: 106 :: 107 :: 108 :: 109 :: 110 :: 111 :: 112 :: []) (fun z => [(85, iv (z.1 : Int)), (11, z.2.1)]) (fun z => ⟨g, 64, [iv (X + (r : Int)), iv (Y + (r : Int)), iv (a2 : Int), iv (b2 : Int), .slice (some ⟨gm, 0, none⟩) N2 N2]⟩ :: ⟨gm, 33, partL (fun i => cl (G (sqL (fun k => xs.getD k 0) s a a2 i S))) N2 (k)⟩ :: ⟨g9, 23, [iv (X + (r : Int)), iv (Y + (r : Int)), iv (a2 : Int), iv (b2 : Int)]⟩ :: ⟨g6, 64, [iv 0, iv 0, iv 0, iv 0, .slice none 0 0]⟩ :: ⟨g3, 64, [iv X, iv Y, iv (a : Int), iv (b : Int), .slice (some ⟨bA, oA, none⟩) n c]⟩ :: z.2.2) (fun z => z.1 ≤ s ∧ Row 33 1 z.2.1 (z.1 * s) ((sqL (fun k => xs.getD k 0) s a a2 k (z.1 * s)).map flt) z.2.2) (fun z => s - z.1) (0, .slice (some ⟨gl, 0, none⟩) 0 cap_, [⟨gl, 33, cs⟩]) ⟨Nat.zero_le _, by rw [Nat.zero_mul]; exact Row.own (xs := []) (junk := cs) rfl (by simp [hcs]) (Nat.zero_le _) hcap⟩ ?_ ?_ ?_
          · exact (by repeat (first | exact kn_nil | refine kn_cons (by rfl) ?_))
          · exact (by repeat (first | exact List.Sublist.refl _ | exact List.nil_sublist _ | refine List.Sublist.cons_cons _ ?_ | refine List.Sublist.cons _ ?_ | exact Sbp.refl | exact Sbp.nil | refine Sbp.cons (by repeat (first | exact Rem.head | apply Rem.tail)) ?_ | exact Sbp.app | refine Sbp.skip ?_))
          · intro z gj17 hz
            obtain ⟨j, vo, Hr⟩ := z
            obtain ⟨hj, hrow⟩ := hz
            simp only at hj hrow
            show CS _ _ _ _ _ (puts (mix _ _ _) [(85, iv (j : Int)), (11, vo)]) (⟨g, 64, [iv (X + (r : Int)), iv (Y + (r : Int)), iv (a2 : Int), iv (b2 : Int), .slice (some ⟨gm, 0, none⟩) N2 N2]⟩ :: ⟨gm, 33, partL (fun i => cl (G (sqL (fun k => xs.getD k 0) s a a2 i S))) N2 (k)⟩ :: ⟨g9, 23, [iv (X + (r : Int)), iv (Y + (r : Int)), iv (a2 : Int), iv (b2 : Int)]⟩ :: ⟨g6, 64, [iv 0, iv 0, iv 0, iv 0, .slice none 0 0]⟩ :: ⟨g3, 64, [iv X, iv Y, iv (a : Int), iv (b : Int), .slice (some ⟨bA, oA, none⟩) n c]⟩ :: Hr)
            refine CS.seq ?_
            refine CS.region ?_
            refine RS.q rfl (QO.lss (by rfl) (by rfl)) ?_
            refine RS.nil ?_
            refine thenC_n ?_
            refine CS.seq ?_
            refine CS.cond (by rfl) (fun hb1 => ?_) (fun hb1 => ?_)
            · have hb1p := of_decide_eq_true hb1
              refine CS.skip ?_
              refine thenC_n ?_
              refine CS.seq ?_
              refine CS.block ?_
              refine CS.seq ?_
              refine CS.region ?_
              refine RS.q rfl (QO.move) ?_
              refine RS.q rfl (QO.assign) ?_
              refine RS.nil ?_
              refine thenC_n ?_
              refine CS.seq ?_
              refine CS.draw 16 rfl (by kernel_rfl) (by kernel_rfl) ?_
              have hx3 : ∃ p, (qd + j) * a = p := ⟨_, rfl⟩
              obtain ⟨p, hp⟩ := hx3
              have hmul : ((qd + j : Nat) : Int) * (a : Int) = (p : Int) := by rw [← hp]; exact (Int.natCast_mul ..).symm
              have hple : p + a ≤ a * b := by
                have h9 := Nat.mul_le_mul_right a (show qd + j + 1 ≤ b by omega)
                rw [Nat.add_mul, hp, Nat.one_mul, Nat.mul_comm b] at h9
                exact h9
              refine RT.take (i := 0) rfl (by kernel_rfl) rfl (QO.move) ?_
              refine RT.take (i := 1) rfl (by kernel_rfl) rfl (QO.fieldAddr fo23_2 (by rfl)) ?_
              first | (refine RT.take (i := 2) rfl (by kernel_rfl) rfl (QO.load ty3 (by rfl) (by repeat (first | exact List.Mem.head _ | refine List.Mem.tail _ ?_)) (by rfl)) ?_) | (refine RT.take (i := 2) rfl (by kernel_rfl) rfl (QO.loadO ty3 (by rfl) (by assumption)) ?_) | (refine RT.take (i := 2) rfl (by kernel_rfl) rfl (QO.load ty3 (by rfl) (by repeat (first | exact List.Mem.head _ | refine List.Mem.tail _ ?_)) (by assumption)) ?_)
              refine RT.takev (i := 3) rfl (by kernel_rfl) rfl (QO.quo (by rfl) (by rfl) (by omega) (by omega) (by omega)) (congrArg iv (show ((k : Int)).tdiv (a2 : Int) = (qd : Int) from by rw [tdiv_cast, hqd])) ?_
              refine RT.take (i := 4) rfl (by kernel_rfl) rfl (QO.move) ?_
              first | (refine RT.takev (i := 5) rfl (by kernel_rfl) rfl (QO.add (by rfl) (by rfl) (by omega) (by omega)) (congrArg iv (show (qd : Int) + (j : Int) = ((qd + j : Nat) : Int) by omega)) ?_) | (refine RT.takev (i := 5) rfl (by kernel_rfl) rfl (QO.ibin (by rfl) (by rfl) trivial) (congrArg iv (show (qd : Int) + (j : Int) = ((qd + j : Nat) : Int) by omega)) ?_)
              refine RT.take (i := 6) rfl (by kernel_rfl) rfl (QO.fieldAddr fo64_0 (by rfl)) ?_
              refine RT.take (i := 7) rfl (by kernel_rfl) rfl (QO.fieldAddr fo23_2 (by rfl)) ?_
              first | (refine RT.take (i := 8) rfl (by kernel_rfl) rfl (QO.load ty3 (by rfl) (by repeat (first | exact List.Mem.head _ | refine List.Mem.tail _ ?_)) (by rfl)) ?_) | (refine RT.take (i := 8) rfl (by kernel_rfl) rfl (QO.loadO ty3 (by rfl) (by assumption)) ?_) | (refine RT.take (i := 8) rfl (by kernel_rfl) rfl (QO.load ty3 (by rfl) (by repeat (first | exact List.Mem.head _ | refine List.Mem.tail _ ?_)) (by assumption)) ?_)
              refine RT.takev (i := 9) rfl (by kernel_rfl) rfl (QO.mul (by rfl) (by rfl) (by rw [hmul]; omega) (by rw [hmul]; omega)) (congrArg iv (show ((qd + j : Nat) : Int) * (a : Int) = (p : Int) from hmul)) ?_
              refine RT.take (i := 10) rfl (by kernel_rfl) rfl (QO.move) ?_
              refine RT.take (i := 11) rfl (by kernel_rfl) rfl (QO.fieldAddr fo23_2 (by rfl)) ?_
              first | (refine RT.take (i := 12) rfl (by kernel_rfl) rfl (QO.load ty3 (by rfl) (by repeat (first | exact List.Mem.head _ | refine List.Mem.tail _ ?_)) (by rfl)) ?_) | (refine RT.take (i := 12) rfl (by kernel_rfl) rfl (QO.loadO ty3 (by rfl) (by assumption)) ?_) | (refine RT.take (i := 12) rfl (by kernel_rfl) rfl (QO.load ty3 (by rfl) (by repeat (first | exact List.Mem.head _ | refine List.Mem.tail _ ?_)) (by assumption)) ?_)
              refine RT.takev (i := 13) rfl (by kernel_rfl) rfl (QO.rem (by rfl) (by rfl) (by omega)) (congrArg iv (show ((k : Int)).tmod (a2 : Int) = (qm : Int) from by rw [tmod_cast, hqm])) ?_
              first | (refine RT.takev (i := 14) rfl (by kernel_rfl) rfl (QO.add (by rfl) (by rfl) (by omega) (by omega)) (congrArg iv (show (p : Int) + (qm : Int) = ((p + qm : Nat) : Int) by omega)) ?_) | (refine RT.takev (i := 14) rfl (by kernel_rfl) rfl (QO.ibin (by rfl) (by rfl) trivial) (congrArg iv (show (p : Int) + (qm : Int) = ((p + qm : Nat) : Int) by omega)) ?_)
              refine RT.take (i := 15) rfl (by kernel_rfl) rfl (QO.assign) ?_
              refine RT.done (by kernel_rfl) ?_
              refine thenC_n ?_
              refine CS.region ?_
              have hjs : j * s + s ≤ S := by
                have h9 := Nat.mul_le_mul_right s (show j + 1 ≤ s by omega)
                rw [Nat.add_mul, Nat.one_mul, ← hS] at h9
                exact h9
              have hnl : (((xs.drop (p + qm)).take s).map flt).length = s * 1 := by
                simp only [List.length_map, List.length_take, List.length_drop]
                omega
              have hsrc : ∀ (i : Nat) (u : Value), (((xs.drop (p + qm)).take s).map flt)[i]? = some u → W.cell? ((⟨bA, oA + (p + qm), none⟩ : Addr).add i) = some u := by
                intro i u hi
                have hil : i < s := by have := (List.getElem?_eq_some_iff.1 hi).1; omega
                rw [List.getElem?_map, List.getElem?_take, if_pos hil, List.getElem?_drop] at hi
                obtain ⟨x, hx, rfl⟩ := Option.map_eq_some_iff.1 hi
                rw [addr_add, Nat.add_assoc]
                exact hcell _ _ hx
              refine RS.q rfl (QO.move) ?_
              refine RS.q rfl (QO.fieldAddr fo64_1 (by rfl)) ?_
              first | (refine RS.q rfl (QO.load ty24 (by rfl) (by repeat (first | exact List.Mem.head _ | refine List.Mem.tail _ ?_)) (by rfl)) ?_) | (refine RS.q rfl (QO.loadO ty24 (by rfl) (by assumption)) ?_) | (refine RS.q rfl (QO.load ty24 (by rfl) (by repeat (first | exact List.Mem.head _ | refine List.Mem.tail _ ?_)) (by assumption)) ?_)
              refine RS.q rfl (QO.move) ?_
              refine RS.q rfl (QO.move) ?_
              refine RS.q rfl (QO.move) ?_
              first | (refine RS.qv rfl (QO.add (by rfl) (by rfl) (by omega) (by omega)) (congrArg iv (show ((p + qm : Nat) : Int) + (s : Int) = ((p + qm + s : Nat) : Int) by omega)) ?_) | (refine RS.qv rfl (QO.ibin (by rfl) (by rfl) trivial) (congrArg iv (show ((p + qm : Nat) : Int) + (s : Int) = ((p + qm + s : Nat) : Int) by omega)) ?_)
              refine RS.qv rfl (QO.cutLoHi Try.underlying24 ty33 (by rfl) (by rfl) (by rfl) (by omega) (by omega) (by omega)) ((show Value.slice (cutAt bA oA (p + qm) c 1) (p + qm + s - (p + qm)) (c - (p + qm)) = Value.slice (some ⟨bA, oA + (p + qm), none⟩) s (c - (p + qm)) from by rw [cutAt_eq (by omega), Nat.mul_one, Nat.add_sub_cancel_left])) ?_
              refine RS.appendRow rfl Try.underlying24 ty33 (by rfl) hrow (by repeat (first | exact Suf.base | apply Suf.cons)) (a := ⟨bA, oA + (p + qm), none⟩) (news := ((xs.drop (p + qm)).take s).map flt) (by rfl) (.inl hsrc) hnl (flt_one _) (by decide) (by omega) (by unfold maxLen; omega) (by omega) ?_
              intro v111 H111 hrow111
              refine RS.q rfl (QO.assign) ?_
              refine RS.nil ?_
              refine blockC_n ?_
              refine thenC_n ?_
              refine CS.region ?_
              first | (refine RS.q rfl (QO.add (by rfl) (by rfl) (by omega) (by omega)) ?_) | (refine RS.q rfl (QO.ibin (by rfl) (by rfl) trivial) ?_)
              refine RS.q rfl (QO.move) ?_
              refine RS.nil ?_
              refine loopQ_n (by intro t ht; repeat (first | with_reducible exact rfl | exact frame_puts ht (frame_mix ht) _ rfl | (refine frame_put rfl ht ?_) | (refine frame_puts ht ?_ _ rfl) | exact frame_mix ht | (refine frame_mix2 rfl ht ?_) | exact rfl)) ?_
              rw [sqL_row (fun u hu => by omega) (by rw [hqd]; exact hp) hqm (by omega), show j * s + s = (j + 1) * s by rw [Nat.add_mul, Nat.one_mul]] at hrow111
              exact ⟨(j + 1, v111, H111), ⟨by show j + 1 ≤ s; omega, hrow111⟩, by show s - (j + 1) < s - j; omega, (by repeat (first | exact kn_nil | refine kn_cons (by rfl) ?_)), (by repeat (first | exact List.Sublist.refl _ | exact List.nil_sublist _ | refine List.Sublist.cons_cons _ ?_ | refine List.Sublist.cons _ ?_ | exact Sbp.refl | exact Sbp.nil | refine Sbp.cons (by repeat (first | exact Rem.head | apply Rem.tail)) ?_ | exact Sbp.app | refine Sbp.skip ?_))⟩
            · have hb1p := of_decide_eq_false hb1
              refine CS.exit ?_
              refine thenC_x ?_
              refine loopQ_x ?_
              refine blockC_x ?_
              refine cutQ_n (by intro t ht; repeat (first | with_reducible exact rfl | exact frame_puts ht (frame_mix ht) _ rfl | (refine frame_put rfl ht ?_) | (refine frame_puts ht ?_ _ rfl) | exact frame_mix ht | (refine frame_mix2 rfl ht ?_) | exact rfl)) ?_
              have hx9 := row_full hrow (by omega) hS (by omega)
              obtain ⟨gl2, cp2, jk2, hv9, hH9, h91, h92, h93⟩ := hx9
              exact ⟨⟨0, gl2, 0, cp2, jk2⟩, ⟨h91, h92, h93⟩, kn_cons hv9 kn_nil, (by rw [hH9]; exact (by repeat (first | exact List.Sublist.refl _ | exact List.nil_sublist _ | refine List.Sublist.cons_cons _ ?_ | refine List.Sublist.cons _ ?_ | exact Sbp.refl | exact Sbp.nil | refine Sbp.cons (by repeat (first | exact Rem.head | apply Rem.tail)) ?_ | exact Sbp.app | refine Sbp.skip ?_)))⟩
        · intro z gj hz
          obtain ⟨_, gl, _, cap_, cs⟩ := z
          obtain ⟨hz1, hz2, hz3⟩ := hz
          simp only at hz1 hz2 hz3
          show CS _ _ _ _ _ (puts (mix _ _ _) [(11, .slice (some ⟨gl, 0, none⟩) S cap_)]) ([⟨g, 64, [iv (X + (r : Int)), iv (Y + (r : Int)), iv (a2 : Int), iv (b2 : Int), .slice (some ⟨gm, 0, none⟩) N2 N2]⟩, ⟨gm, 33, partL (fun i => cl (G (sqL (fun k => xs.getD k 0) s a a2 i S))) N2 (k)⟩, ⟨g9, 23, [iv (X + (r : Int)), iv (Y + (r : Int)), iv (a2 : Int), iv (b2 : Int)]⟩, ⟨g6, 64, [iv 0, iv 0, iv 0, iv 0, .slice none 0 0]⟩, ⟨g3, 64, [iv X, iv Y, iv (a : Int), iv (b : Int), .slice (some ⟨bA, oA, none⟩) n c]⟩, ⟨gl, 33, (sqL (fun k => xs.getD k 0) s a a2 k (S)).map flt ++ cs⟩])
          refine CS.draw 8 rfl (by kernel_rfl) (by kernel_rfl) ?_
          refine RT.take (i := 0) rfl (by kernel_rfl) rfl (QO.fieldAddr fo64_1 (by rfl)) ?_
          first | (refine RT.take (i := 1) rfl (by kernel_rfl) rfl (QO.load ty24 (by rfl) (by repeat (first | exact List.Mem.head _ | refine List.Mem.tail _ ?_)) (by rfl)) ?_) | (refine RT.take (i := 1) rfl (by kernel_rfl) rfl (QO.loadO ty24 (by rfl) (by assumption)) ?_) | (refine RT.take (i := 1) rfl (by kernel_rfl) rfl (QO.load ty24 (by rfl) (by repeat (first | exact List.Mem.head _ | refine List.Mem.tail _ ?_)) (by assumption)) ?_)
          refine RT.take (i := 2) rfl (by kernel_rfl) rfl (QO.move) ?_
          refine RT.take (i := 3) rfl (by kernel_rfl) rfl (QO.move) ?_
          refine RT.take (i := 4) rfl (by kernel_rfl) rfl (QO.move) ?_
          refine RT.one (i := 5) (by kernel_rfl) rfl rfl ?_
          refine RS.call rfl (by rfl) hok (by rfl) (fun w ho => by have h9 := hf _ _ ho gl cap_ (sqL (fun k => xs.getD k 0) s a a2 k (S)) (sqL_len ..) (FS.blk ho (by repeat (first | exact List.Mem.head _ | refine List.Mem.tail _ ?_))); rw [sqL_len] at h9; exact h9) ?_
          rintro _ _ ⟨rfl, rfl⟩
          refine RS.nil ⟨(by repeat (first | exact List.Sublist.refl _ | exact List.nil_sublist _ | refine List.Sublist.cons_cons _ ?_ | refine List.Sublist.cons _ ?_ | exact Sbp.refl | exact Sbp.nil | refine Sbp.cons (by repeat (first | exact Rem.head | apply Rem.tail)) ?_ | exact Sbp.app | refine Sbp.skip ?_)), ?_⟩
          refine RT.one (i := 6) (by kernel_rfl) rfl rfl ?_
          refine RS.call rfl (by rfl) ok117 (by rfl) (fun w ho => clean _ _) ?_
          rintro _ _ ⟨rfl, rfl⟩
          refine RS.nil ⟨(by repeat (first | exact List.Sublist.refl _ | exact List.nil_sublist _ | refine List.Sublist.cons_cons _ ?_ | refine List.Sublist.cons _ ?_ | exact Sbp.refl | exact Sbp.nil | refine Sbp.cons (by repeat (first | exact Rem.head | apply Rem.tail)) ?_ | exact Sbp.app | refine Sbp.skip ?_)), ?_⟩
          first | (refine RT.take (i := 7) rfl (by kernel_rfl) rfl (QO.idx0 Try.underlying24 ty33 (by rfl) (by rfl) (by rfl) (by omega)) ?_) | (refine RT.take (i := 7) rfl (by kernel_rfl) rfl (QO.idxn Try.underlying24 ty33 (by rfl) (by rfl) (by rfl) (by omega)) ?_) | (refine RT.take (i := 7) rfl (by kernel_rfl) rfl (QO.idx1 Try.underlying24 ty33 (by rfl) (by rfl) (by omega) (by omega)) ?_)
          refine RT.tail (i := 8) (by kernel_rfl) rfl rfl ?_
          refine RS.store1e ty33 rfl (by rfl) (by rfl) (by rfl) (partL_set (fun i => cl (G (sqL (fun k => xs.getD k 0) s a a2 i S))) N2 k _ (by rfl) (by omega)) (by repeat (first | exact Upd.head | apply Upd.tail)) (by rw [partL_len]; omega) ?_
          refine RS.nil ?_
          refine RT.done (by kernel_rfl) ?_
          refine blockC_n ?_
          refine thenC_n ?_
          refine CS.region ?_
          first | (refine RS.q rfl (QO.add (by rfl) (by rfl) (by omega) (by omega)) ?_) | (refine RS.q rfl (QO.ibin (by rfl) (by rfl) trivial) ?_)
          refine RS.q rfl (QO.move) ?_
          refine RS.nil ?_
          refine loopQ_n (by intro t ht; repeat (first | with_reducible exact rfl | exact frame_puts ht (frame_mix ht) _ rfl | (refine frame_put rfl ht ?_) | (refine frame_puts ht ?_ _ rfl) | exact frame_mix ht | (refine frame_mix2 rfl ht ?_) | exact rfl)) ?_
          exact ⟨⟨k + 1, gl, S, cap_, (sqL (fun k => xs.getD k 0) s a a2 k (S)).map flt ++ cs⟩, ⟨by show k + 1 ≤ N2; omega, hz3, hz1, by simp only [List.length_append, List.length_map, sqL_len]; exact hz2⟩, by show N2 - (k + 1) < N2 - k; omega, (by repeat (first | exact kn_nil | refine kn_cons (by rfl) ?_)), (by repeat (first | exact List.Sublist.refl _ | exact List.nil_sublist _ | refine List.Sublist.cons_cons _ ?_ | refine List.Sublist.cons _ ?_ | exact Sbp.refl | exact Sbp.nil | refine Sbp.cons (by repeat (first | exact Rem.head | apply Rem.tail)) ?_ | exact Sbp.app | refine Sbp.skip ?_))⟩
      · have hb0p := of_decide_eq_false hb0
        refine CS.exit ?_
        refine thenC_x ?_
        refine loopQ_x ?_
        refine blockC_x ?_
        refine thenC_n ?_
        refine CS.seq ?_
        refine CS.region ?_
        first | (refine RS.q rfl (QO.loadB ty64 (by rfl) (by repeat (first | exact List.Mem.head _ | refine List.Mem.tail _ ?_)) (by rfl)) ?_) | (refine RS.q rfl (QO.loadA ty64 (by rfl) (by repeat (first | exact List.Mem.head _ | refine List.Mem.tail _ ?_)) (by rfl) (by rfl)) ?_) | (refine RS.q rfl (QO.loadOA ty64 (by rfl) (by assumption) (by rfl)) ?_)
        first | refine RS.storeB ty64 (by rfl) (by rfl) (by rfl) (by rfl) (by rfl) (by repeat (first | exact Upd.head | apply Upd.tail)) (by rfl) ?_ | refine RS.storeP ty64 (by rfl) (by rfl) (by rfl) (by rfl) (by rfl) (by repeat (first | exact Upd.head | apply Upd.tail)) (by rfl) ?_
        refine RS.q rfl (QO.assign) ?_
        refine RS.nil ?_
        refine thenC_n ?_
        refine CS.ret ?_
        refine retQ.mk (H' := [⟨gm, 33, ((List.range N2).map (fun i => cl (G (sqL (fun k => xs.getD k 0) s a a2 i S)))).map flt⟩]) (.inr rfl) (RVs.cellA ty64 (by rfl) (by repeat (first | exact List.Mem.head _ | refine List.Mem.tail _ ?_)) (by rfl) (RVs.tmp (by rfl) RVs.nil)) (by obtain rfl : k = N2 := (by omega); rw [partL_full]; exact (by repeat (first | exact List.Sublist.refl _ | exact List.nil_sublist _ | refine List.Sublist.cons_cons _ ?_ | refine List.Sublist.cons _ ?_ | exact Sbp.refl | exact Sbp.nil | refine Sbp.cons (by repeat (first | exact Rem.head | apply Rem.tail)) ?_ | exact Sbp.app | refine Sbp.skip ?_))) ?_
        exact ⟨gm, rfl, rfl⟩

end Go.Proofs.Ytplfeaikjgfhcaa
