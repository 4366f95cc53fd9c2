/-
  Parts of the proof: Ins, Sms.
-/
import Derived.Test.YtjhpiclnpmdjnaaGreatDoorQ12
import Derived.Lib.Overlaps
import Derived.Lib.AppendZerosOnto
import Derived.Laws.Externs
import Derived.Deep.RegionLaw
namespace Go.Proofs.YtjhpiclnpmdjnaaGreatDoor.Bm
open Go Go.RowKit
open Go.Proofs.YtjhpiclnpmdjnaaGreatDoor
open Go.Proofs.YtjhpiclnpmdjnaaGreatDoor.Ln (flat flat_len flat_get flat_mem RowIn OwnR Idx bl2 results2_cell Blk_setRow_same Blk_setRow_ne Below_setRow take_at one_at call_wp value_wp SB tk ts z0 z1 z2 z3 z4 z5)
open Go.Proofs.YtjhpiclnpmdjnaaGreatDoor.Sr (GV)
set_option linter.unusedSimpArgs false
set_option linter.unusedVariables false
set_option maxRecDepth 100000
theorem run_copy_at {P : Program} (w : World) (dT sT ty elem : TypeId) (g o : Nat) (a : Addr) (n1 c1 n2 c2 n k : Nat) (cur : Array Value) (t : TypeId) (cs : List Value)
  (hu : P.underlying dT = some (.slice elem)) (hs : (P.info? elem).map (·.size) = some k) (hg : w.heap[g]? = some (.cells cur t (0, 0))) (hm : Nat.min n2 n1 = n) (hn : cs.length = n * k)
  (hsrc : ∀ j v, cs[j]? = some v → w.cell? (a.add j) = some v) (hfit : o + cs.length ≤ cur.size) (h1 : ∀ v ∈ cs, v.oneCell' = true) :
  (Builtin.copy_ #[dT, sT] ty #[.slice (some ⟨g, o, none⟩) n1 c1, .slice (some a) n2 c2]).run P w = .ok (goInt n) (w.setRow g (cur.toList.take o ++ cs ++ cur.toList.drop (o + cs.length)).toArray) := by
 have hl := run_loadCells_list (P := P) w a cs hsrc
 have hst := run_storeCells_at (P := P) g o t cs 0 cur w hg (by simpa using hfit) h1
 simp only [Nat.add_zero] at hst
 have hm' : min n2 n1 = n := hm
 cases hq : P.info? elem with
 | none => simp [hq] at hs
 | some i =>
  have hi : i.size = k := by simpa [hq] using hs
  simp [Builtin.copy_, run_underlying hu, Builtin.lenOf, Builtin.firstCells, sizeOf, typeInfo, hq, hi, hm, hm', ← hn, hl, hst]
theorem ins_cells {F1 F2 X Y cur r1 : List Value} {k : Nat} (hc : cur = F1 ++ F2 ++ X) (hy : Y.length = k) (hX : k ≤ X.length) (hr : r1 = cur.take (F1.length + k) ++ F2 ++ cur.drop (F1.length + k + F2.length)) :
  r1.take F1.length ++ Y ++ r1.drop (F1.length + Y.length) = F1 ++ Y ++ F2 ++ X.drop k := by
 have e1 : cur.take (F1.length + k) = F1 ++ (F2 ++ X).take k := by
  rw [hc, List.append_assoc, List.take_length_add_append]
 have e2 : cur.drop (F1.length + k + F2.length) = X.drop k := by
  have : F1.length + k + F2.length = (F1 ++ F2).length + k := by rw [List.length_append]; omega
  rw [hc, this, List.drop_length_add_append]
 have hT : ((F2 ++ X).take k).length = k := by rw [List.length_take, List.length_append]; omega
 rw [hr, e1, e2]
 generalize (F2 ++ X).take k = T at *
 have e3 : (F1 ++ T ++ F2 ++ X.drop k).take F1.length = F1 := by
  rw [List.append_assoc, List.append_assoc, List.take_append_of_le_length (Nat.le_refl _), List.take_length]
 have e4 : (F1 ++ T ++ F2 ++ X.drop k).drop (F1.length + Y.length) = F2 ++ X.drop k := by
  have : F1.length + Y.length = (F1 ++ T).length + 0 := by rw [List.length_append, hy, hT]; omega
  rw [this, List.append_assoc (F1 ++ T), List.drop_length_add_append]
  rfl
 rw [e3, e4]
 simp
theorem flat_app {α : Type} (enc : α → List Value) (a b : List α) : flat enc (a ++ b) = flat enc a ++ flat enc b := by simp [flat]
theorem flat_cons {α : Type} (enc : α → List Value) (x : α) (b : List α) : flat enc (x :: b) = enc x ++ flat enc b := by simp [flat]
set_option maxHeartbeats 8000000 in
theorem insM_room (g c : Nat) (xs : List Mn) (y : Mn) (gy B i : Nat) (w : World) (ho : OwnR mnenc 2 112 w B g c xs) (hy : Bk.Blk w gy #[.string y.cu, .int .i64 y.am] 112) (hn : xs.length ≤ 100000) (hc : xs.length < c) (hne : gy ≠ g) (hi : i < xs.length) (hBw : B ≤ w.heap.size) :
  Calls Tryz.prog 85 #[.slice (some ⟨g, 0, none⟩) xs.length c, .int .i64 i, .slice (some ⟨gy, 0, none⟩) 1 1] w fun e w' => e = .returned (.slice (some ⟨g, 0, none⟩) (xs.length + 1) c) ∧ OwnR mnenc 2 112 w' B g c (xs.take i ++ y :: xs.drop i) ∧ w.heap.size ≤ w'.heap.size ∧ Below B w w' ∧ ∀ b, b ≠ g → b < w.heap.size → w'.heap[b]? = w.heap[b]? := by
 obtain ⟨hB, hcm, X, hX, hg⟩ := ho
 have hcm2 : c ≤ 9223372036854775807 := by unfold maxLen at hcm; omega
 obtain ⟨F1, hF1⟩ : ∃ F1, F1 = flat mnenc (xs.take i) := ⟨_, rfl⟩
 obtain ⟨F2, hF2⟩ : ∃ F2, F2 = flat mnenc (xs.drop i) := ⟨_, rfl⟩
 have l1 : F1.length = i * 2 := by rw [hF1, flat_len mnenc_len, List.length_take]; omega
 have l2 : F2.length = (xs.length - i) * 2 := by rw [hF2, flat_len mnenc_len, List.length_drop]
 have hfx : flat mnenc xs = F1 ++ F2 := by rw [hF1, hF2, ← flat_app, List.take_append_drop]
 have lX : 2 ≤ X.length := by omega
 rw [hfx] at hg
 obtain ⟨cur, hcur⟩ : ∃ cur, cur = F1 ++ F2 ++ X := ⟨_, rfl⟩
 rw [← hcur] at hg
 have lc : cur.length = c * 2 := by rw [hcur, List.length_append, List.length_append, l1, l2]; omega
 have o1 : ∀ v ∈ F2, v.oneCell' = true := fun v hv => by
  rw [hF2] at hv
  exact flat_mem (fun x u hu => mnenc_one x u hu) _ v hv
 obtain ⟨r1, hr1⟩ : ∃ r1, r1 = cur.take ((i + 1) * 2) ++ F2 ++ cur.drop ((i + 1) * 2 + F2.length) := ⟨_, rfl⟩
 have lr : r1.length = c * 2 := by
  rw [hr1, List.length_append, List.length_append, List.length_take, List.length_drop, l2, lc]
  omega
 have hfin : r1.take (i * 2) ++ mnenc y ++ r1.drop (i * 2 + (mnenc y).length) = flat mnenc (xs.take i ++ y :: xs.drop i) ++ X.drop 2 := by
  have := ins_cells (Y := mnenc y) (r1 := r1) (k := 2) hcur rfl lX (by rw [l1, show i * 2 + 2 = (i + 1) * 2 by omega]; exact hr1)
  rw [l1] at this
  rw [this, flat_app, flat_cons, ← hF1, ← hF2]
  simp
 have hov : ∀ lb cb, (callFunc 117 #[.slice (some ⟨gy, 0, none⟩) 1 1, .slice (some ⟨g, (i + 1) * 2, none⟩) lb cb]).run Tryz.prog w = .ok (.value (.bool false)) w := fun lb cb => by
  rw [run_callFunc_extern Tryz.func117 (by kernel_rfl) (by kernel_rfl) (by kernel_rfl) (e := Extern.SlicesOverlaps.overlaps #[109, 109] #[4]) (by kernel_rfl),
   Lib.run_overlaps_apart w 109 4 112 Tryz.underlying109 2 Tryz.sizeOf112 ⟨gy, 0, none⟩ ⟨g, (i + 1) * 2, none⟩ 1 1 lb cb hne 112 112 2 (c * 2) (by simp [World.shape?, show w.heap[gy]? = _ from hy]) (by simp [World.shape?, show w.heap[g]? = _ from hg, lc]) (by omega) hy.f0 (by simp [World.frozen?, show w.heap[gy]? = _ from hy])]
  rfl
 have hsz : (Tryz.prog.info? 112).map (·.size) = some 2 := by kernel_rfl
 have hcp1 : ∀ ty n1 dc n2 sc, Nat.min n2 n1 = xs.length - i → (Builtin.copy_ #[109, 109] ty #[.slice (some ⟨g, (i + 1) * 2, none⟩) n1 dc, .slice (some ⟨g, i * 2, none⟩) n2 sc]).run Tryz.prog w.drew = .ok (goInt (xs.length - i : Nat)) (w.drew.setRow g r1.toArray) := fun ty n1 dc n2 sc hm => by
  rw [hr1]
  refine (run_copy_at w.drew _ _ ty 112 g ((i + 1) * 2) ⟨g, i * 2, none⟩ n1 dc n2 sc (xs.length - i) 2 cur.toArray 112 F2 Tryz.underlying109 hsz hg hm (by rw [l2]) (fun j v hj => ?_) (by rw [l2]; simp only [List.size_toArray, lc]; omega) o1).trans ?_
  ·rw [Addr.add_lit]
   rw [show (w.drew).cell? ⟨g, i * 2 + j, none⟩ = w.cell? ⟨g, i * 2 + j, none⟩ from rfl, Bk.Blk.cell hg]
   simp only [List.getElem?_toArray]
   rw [hcur, List.append_assoc, ← l1, List.getElem?_append_right (by omega), Nat.add_sub_cancel_left, List.getElem?_append_left (List.getElem?_eq_some_iff.1 hj).1]
   exact hj
  ·simp
 have hcp2 : ∀ ty n1 dc, 1 ≤ n1 → (Builtin.copy_ #[109, 109] ty #[.slice (some ⟨g, i * 2, none⟩) n1 dc, .slice (some ⟨gy, 0, none⟩) 1 1]).run Tryz.prog (w.drew.setRow g r1.toArray) = .ok (goInt (1 : Nat)) ((w.drew.setRow g r1.toArray).setRow g (flat mnenc (xs.take i ++ y :: xs.drop i) ++ X.drop 2).toArray) := fun ty n1 dc hm => by
  have hk : Bk.Blk (w.drew.setRow g r1.toArray) g r1.toArray 112 := Blk_setRow_same (Bk.Blk.drew hg)
  have hky : Bk.Blk (w.drew.setRow g r1.toArray) gy #[.string y.cu, .int .i64 y.am] 112 := Blk_setRow_ne (Bk.Blk.drew hy) hne
  refine (run_copy_at _ _ _ ty 112 g (i * 2) ⟨gy, 0, none⟩ n1 dc 1 1 1 2 r1.toArray 112 (mnenc y) Tryz.underlying109 hsz hk (by show min 1 n1 = 1; omega) rfl (fun j v hj => ?_) (by simp only [List.size_toArray, lr, mnenc_len]; omega) (mnenc_one y)).trans ?_
  ·rw [Addr.add_lit, Nat.zero_add, Bk.Blk.cell hky]
   simpa [mnenc] using hj
  ·rw [← hfin]
 have hz2 : ((i : Int) == (xs.length : Int)) = false := by simp; omega
 have hz3 : decide ((c : Int) < (xs.length : Int) + 1) = false := decide_eq_false (by omega)
 have hw1 : IntKind.i64.wrap ((i : Int) + 1) = (i : Int) + 1 := by rw [IntKind.wrap_i64]; omega
 have HF := Lib.hid hfin
 have HH := Lib.hid (And.intro hB hcm)
 have HX := Lib.hid hX
 have HG := Lib.hid hg
 have HI := Lib.hid (And.intro hi hcm2)
 clear hF1 hF2 l1 l2 hfx lX hcur lc o1 hr1 lr hfin hsz hB hcm hX
 go_enter Tryz.func85, Tryz.ntmps85
 go_wp2_with (simp only [hov])
 have hin : i ≤ xs.length := by omega
 have hb1 : (0 : Int) ≤ (i : Int) + 1 := by omega
 have htn : ((i : Int) + 1).toNat = i + 1 := by omega
 have hb2 : ¬ (c = i + 1) := by omega
 have hb3 : (i : Int) ≤ (xs.length : Int) + 1 := by omega
 have hb4 : ¬ (c = i) := by omega
 have hb5 : (i : Int) + 1 ≤ (xs.length : Int) + 1 := by omega
 have hc1 : ∀ ty, (Builtin.copy_ #[109, 109] ty #[.slice (some ⟨g, (i + 1) * 2, none⟩) (xs.length - i) (c - (i + 1)), .slice (some ⟨g, i * 2, none⟩) (xs.length + 1 - i) (c - i)]).run Tryz.prog w.drew = .ok (goInt (xs.length - i : Nat)) (w.drew.setRow g r1.toArray) := fun ty => hcp1 ty _ _ _ _ (by simp only [Nat.min_def]; split <;> omega)
 clear hcp1 hov
 go_region
 have hc2 : ∀ ty, (Builtin.copy_ #[109, 109] ty #[.slice (some ⟨g, i * 2, none⟩) (xs.length + 1 - i) (c - i), .slice (some ⟨gy, 0, none⟩) 1 1]).run Tryz.prog (w.drew.setRow g r1.toArray) = .ok (goInt (1 : Nat)) ((w.drew.setRow g r1.toArray).setRow g (flat mnenc (xs.take i ++ y :: xs.drop i) ++ X.drop 2).toArray) := fun ty => hcp2 ty _ _ (by omega)
 clear hc1 hcp2
 go_wp2_with fail
 go_ret
 have hk : Bk.Blk (w.drew.setRow g r1.toArray) g r1.toArray 112 := Blk_setRow_same (Bk.Blk.drew HG.out)
 have hlen : (xs.take i ++ y :: xs.drop i).length = xs.length + 1 := by
  rw [List.length_append, List.length_take, List.length_cons, List.length_drop]
  omega
 refine ⟨rfl, ⟨HH.out.1, HH.out.2, X.drop 2, ?_, Blk_setRow_same hk⟩, by rw [size_setRow, size_setRow]; exact Nat.le_refl _, ?_, fun b hb _ => ?_⟩
 ·rw [hlen, List.length_drop]
  have := HX.out
  omega
 ·exact Below_setRow (Below_setRow ((Below.refl _ _).drew) HH.out.1 _) HH.out.1 _
 ·rw [setRow_other _ _ _ _ hb, setRow_other _ _ _ _ hb]
  rfl
theorem ins_grown {F1 F2 Z Y R r1 r2 : List Value} {k n2 : Nat} (hR : R = F1 ++ Z) (hy : Y.length = k) (hZ : k + F2.length ≤ Z.length) (h1 : r1 = R.take F1.length ++ Y ++ R.drop (F1.length + Y.length)) (h2 : r2 = r1.take (F1.length + k) ++ F2 ++ r1.drop (F1.length + k + F2.length)) :
  r2 = F1 ++ Y ++ F2 ++ Z.drop (k + F2.length) := by
 have e1 : r1 = F1 ++ Y ++ Z.drop k := by
  rw [h1, hR, List.take_append_of_le_length (Nat.le_refl _), List.take_length, hy, List.drop_length_add_append]
 have e2 : r1.take (F1.length + k) = F1 ++ Y := by
  have : F1.length + k = (F1 ++ Y).length := by rw [List.length_append, hy]
  rw [e1, this, List.take_append_of_le_length (Nat.le_refl _), List.take_length]
 have e3 : r1.drop (F1.length + k + F2.length) = Z.drop (k + F2.length) := by
  have : F1.length + k + F2.length = (F1 ++ Y).length + F2.length := by rw [List.length_append, hy]
  rw [e1, this, List.drop_length_add_append, List.drop_drop]
 rw [h2, e2, e3]
theorem mn_info2 : ∃ i0, Tryz.prog.info? 112 = some i0 ∧ i0.zero = some (.agg #[.string .empty, .int .i64 0]) ∧ i0.size = 2 ∧ i0.bytes = 24 := by
 have h := mn_info
 cases hq : Tryz.prog.info? 112 with
 | none => rw [hq] at h; cases h
 | some i0 =>
  rw [hq] at h
  have h' := Option.some.inj h
  exact ⟨i0, rfl, congrArg (·.1) h', congrArg (·.2.1) h', congrArg (·.2.2) h'⟩
set_option maxHeartbeats 8000000 in
theorem insM_grow (g : Nat) (xs : List Mn) (y : Mn) (gy B i : Nat) (w : World) (ho : OwnR mnenc 2 112 w B g xs.length xs) (hy : Bk.Blk w gy #[.string y.cu, .int .i64 y.am] 112) (hn : xs.length ≤ 100000) (hi : i < xs.length) (hBw : B ≤ w.heap.size) :
  Calls Tryz.prog 85 #[.slice (some ⟨g, 0, none⟩) xs.length xs.length, .int .i64 i, .slice (some ⟨gy, 0, none⟩) 1 1] w fun e w' => ∃ c', e = .returned (.slice (some ⟨w.heap.size, 0, none⟩) (xs.length + 1) c') ∧ OwnR mnenc 2 112 w' B w.heap.size c' (xs.take i ++ y :: xs.drop i) ∧ Below w.heap.size w w' := by
 obtain ⟨hB, hcm, X, hX, hg⟩ := ho
 obtain ⟨i0, hi0, hz0, hzs, hzb⟩ := mn_info2
 obtain ⟨F1, hF1⟩ : ∃ F1, F1 = flat mnenc (xs.take i) := ⟨_, rfl⟩
 obtain ⟨F2, hF2⟩ : ∃ F2, F2 = flat mnenc (xs.drop i) := ⟨_, rfl⟩
 have l1 : F1.length = i * 2 := by rw [hF1, flat_len mnenc_len, List.length_take]; omega
 have l2 : F2.length = (xs.length - i) * 2 := by rw [hF2, flat_len mnenc_len, List.length_drop]
 have hfx : flat mnenc xs = F1 ++ F2 := by rw [hF1, hF2, ← flat_app, List.take_append_drop]
 obtain rfl : X = [] := List.eq_nil_of_length_eq_zero (by omega)
 rw [hfx, List.append_nil] at hg
 have o1 : ∀ v ∈ F2, v.oneCell' = true := fun v hv => by
  rw [hF2] at hv
  exact flat_mem (fun x u hu => mnenc_one x u hu) _ v hv
 have hgw := hg.lt
 have hyw := hy.lt
 obtain ⟨G, hG⟩ : ∃ G, G = grownCap w (xs.length + 1) xs.length 112 := ⟨_, rfl⟩
 have hGn : xs.length + 1 ≤ G := by rw [hG]; exact grownCap_ge w _ _ _
 have hGm : G ≤ maxLen := by rw [hG]; exact grownCap_le_maxLen w _ _ _ (by unfold maxLen; omega)
 have hG63 : G ≤ 9223372036854775807 := by unfold maxLen at hGm; omega
 obtain ⟨Z, hZ⟩ : ∃ Z : List Value, Z = (Builtin.zeroCells (Value.agg #[.string .empty, .int .i64 0]).cells (xs.length + 1 - i) ++ Builtin.zeroCells (Value.agg #[.string .empty, .int .i64 0]).cells (G - (xs.length + 1))).toList := ⟨_, rfl⟩
 have lZ : Z.length = (G - i) * 2 := by
  rw [hZ]
  simp only [Array.length_toList, Array.size_append, size_zeroCells, Value.cells]
  show (xs.length + 1 - i) * 2 + (G - (xs.length + 1)) * 2 = (G - i) * 2
  omega
 have hold : (Builtin.firstCells i0.size i (.slice (some ⟨g, 0, none⟩) i xs.length)).run Tryz.prog w.drew = .ok F1.toArray w.drew := by
  rw [hzs]
  exact run_firstCells_some w.drew 2 i ⟨g, 0, none⟩ i xs.length F1 l1 (fun j v hj => by
   rw [Addr.add_lit, Nat.zero_add, show (w.drew).cell? ⟨g, j, none⟩ = w.cell? ⟨g, j, none⟩ from rfl, Bk.Blk.cell hg]
   simp only [List.getElem?_toArray]
   rw [List.getElem?_append_left (List.getElem?_eq_some_iff.1 hj).1]
   exact hj)
 obtain ⟨W1, hW1⟩ : ∃ W1, W1 = w.drew.alloc (.cells (F1 ++ Z).toArray 112) := ⟨_, rfl⟩
 have hap : ∀ ty, (Builtin.append_ #[109, 3] ty #[.slice (some ⟨g, 0, none⟩) i xs.length, .int .i64 ((xs.length : Int) + 1 - (i : Int))]).run Tryz.prog w = .ok (.slice (some ⟨w.heap.size, 0, none⟩) (xs.length + 1) G) W1 := fun ty => by
  have hik : i + (xs.length + 1 - i) = xs.length + 1 := by omega
  have h := Lib.run_append_grow_zeros w 109 3 ty 112 i0 _ .i64 .i64 Tryz.underlying109 Tryz.underlying3 hi0 hz0 (some ⟨g, 0, none⟩) i xs.length F1 hold (xs.length + 1 - i) (by omega) (by omega) (by omega) (by omega) (by rw [hzb]; omega) (by rw [hzb, hik]; exact growslice_fits (by omega) (by omega))
  rw [hik, ← hG] at h
  rw [show (xs.length : Int) + 1 - (i : Int) = ((xs.length + 1 - i : Nat) : Int) by omega, hW1]
  have e : (F1 ++ Z).toArray = F1.toArray ++ Builtin.zeroCells (Value.agg #[.string .empty, .int .i64 0]).cells (xs.length + 1 - i) ++ Builtin.zeroCells (Value.agg #[.string .empty, .int .i64 0]).cells (G - (xs.length + 1)) := by
   rw [hZ, Array.append_assoc]
   simp
  rw [e]
  exact h
 obtain ⟨r1, hr1⟩ : ∃ r1, r1 = (F1 ++ Z).take (i * 2) ++ mnenc y ++ (F1 ++ Z).drop (i * 2 + (mnenc y).length) := ⟨_, rfl⟩
 obtain ⟨r2, hr2⟩ : ∃ r2, r2 = r1.take ((i + 1) * 2) ++ F2 ++ r1.drop ((i + 1) * 2 + F2.length) := ⟨_, rfl⟩
 have hfin : r2 = flat mnenc (xs.take i ++ y :: xs.drop i) ++ Z.drop (2 + F2.length) := by
  rw [ins_grown (F1 := F1) (F2 := F2) (Z := Z) (R := F1 ++ Z) (r1 := r1) (r2 := r2) (Y := mnenc y) (k := 2) (n2 := 0) rfl rfl (by omega) (by rw [l1]; exact hr1) (by rw [l1, show i * 2 + 2 = (i + 1) * 2 by omega]; exact hr2), flat_app, flat_cons, ← hF1, ← hF2]
  simp
 have lr1 : r1.length = G * 2 := by
  rw [hr1, List.length_append, List.length_append, List.length_take, List.length_drop, List.length_append, l1, lZ, mnenc_len]
  omega
 have hk1 : Bk.Blk W1 w.heap.size (F1 ++ Z).toArray 112 := by rw [hW1]; exact Bk.Blk.nw10 (W := w.drew)
 have hgk : Bk.Blk W1 g (F1 ++ F2).toArray 112 := by rw [hW1]; exact Bk.Blk.alloc (Bk.Blk.drew hg)
 have hyk : Bk.Blk W1 gy #[.string y.cu, .int .i64 y.am] 112 := by rw [hW1]; exact Bk.Blk.alloc (Bk.Blk.drew hy)
 have hb1 : Below w.heap.size w W1 := by rw [hW1]; exact ((Below.refl _ _).drew).alloc (Nat.le_refl _) _
 have hsz : (Tryz.prog.info? 112).map (·.size) = some 2 := by kernel_rfl
 have hc1 : ∀ ty, (Builtin.copy_ #[109, 109] ty #[.slice (some ⟨w.heap.size, i * 2, none⟩) (xs.length + 1 - i) (G - i), .slice (some ⟨gy, 0, none⟩) 1 1]).run Tryz.prog W1 = .ok (goInt (1 : Nat)) (W1.setRow w.heap.size r1.toArray) := fun ty => by
  rw [hr1]
  refine (run_copy_at _ _ _ ty 112 w.heap.size (i * 2) ⟨gy, 0, none⟩ _ _ 1 1 1 2 (F1 ++ Z).toArray 112 (mnenc y) Tryz.underlying109 hsz hk1 (by show min 1 (xs.length + 1 - i) = 1; omega) rfl (fun j v hj => ?_) (by simp only [List.size_toArray, List.length_append, l1, lZ, mnenc_len]; omega) (mnenc_one y)).trans ?_
  ·rw [Addr.add_lit, Nat.zero_add, Bk.Blk.cell hyk]
   simpa [mnenc] using hj
  ·rfl
 obtain ⟨W2, hW2⟩ : ∃ W2, W2 = W1.setRow w.heap.size r1.toArray := ⟨_, rfl⟩
 rw [← hW2] at hc1
 have hk2 : Bk.Blk W2 w.heap.size r1.toArray 112 := by rw [hW2]; exact Blk_setRow_same hk1
 have hgk2 : Bk.Blk W2 g (F1 ++ F2).toArray 112 := by rw [hW2]; exact Blk_setRow_ne hgk (by omega)
 have hb2 : Below w.heap.size w W2 := by rw [hW2]; exact Below_setRow hb1 (Nat.le_refl _) _
 have hc2 : ∀ ty, (Builtin.copy_ #[109, 109] ty #[.slice (some ⟨w.heap.size, (i + 1) * 2, none⟩) (xs.length - i) (G - (i + 1)), .slice (some ⟨g, i * 2, none⟩) (xs.length - i) (xs.length - i)]).run Tryz.prog W2.drew = .ok (goInt (xs.length - i : Nat)) (W2.drew.setRow w.heap.size r2.toArray) := fun ty => by
  rw [hr2]
  refine (run_copy_at W2.drew _ _ ty 112 w.heap.size ((i + 1) * 2) ⟨g, i * 2, none⟩ _ _ _ _ (xs.length - i) 2 r1.toArray 112 F2 Tryz.underlying109 hsz (Bk.Blk.drew hk2) (Nat.min_self _) (by rw [l2]) (fun j v hj => ?_) (by rw [l2]; simp only [List.size_toArray, lr1]; omega) o1).trans ?_
  ·rw [Addr.add_lit, Bk.Blk.cell (Bk.Blk.drew hgk2)]
   simp only [List.getElem?_toArray]
   rw [← l1, List.getElem?_append_right (by omega), Nat.add_sub_cancel_left]
   exact hj
  ·rfl
 have hz2 : ((i : Int) == (xs.length : Int)) = false := by simp; omega
 have hz3 : decide ((xs.length : Int) < (xs.length : Int) + 1) = true := decide_eq_true (by omega)
 have hw1 : IntKind.i64.wrap ((i : Int) + 1) = (i : Int) + 1 := by rw [IntKind.wrap_i64]; omega
 have HK := Lib.hid (And.intro hk2 (And.intro hb2 hfin))
 have HL := Lib.hid (And.intro lZ l2)
 have hGi : ¬ (G = i) := by omega
 have hGim : ¬ (G = i + 1) := by omega
 have hci : ¬ (xs.length = i) := by omega
 have hin : i ≤ xs.length := by omega
 have hb1' : (0 : Int) ≤ (i : Int) + 1 := by omega
 have htn : ((i : Int) + 1).toNat = i + 1 := by omega
 have hb5 : (i : Int) + 1 ≤ (xs.length : Int) + 1 := by omega
 clear hF1 hF2 l1 l2 hfx o1 hgw hyw hG hZ lZ hold hW1 hr1 hr2 hfin lr1 hk1 hgk hyk hb1 hsz hW2 hk2 hgk2 hb2 hX hg hy hi0 hz0 hzs hzb
 go_enter Tryz.func85, Tryz.ntmps85
 go_wp2_with (at_builtin; refine Lib.wpList_append_run _ rfl _ _ _ _ rfl _ _ rfl rfl _ _ (hap _) ?_)
 clear hap hc1
 go_region
 go_wp2_with fail
 go_ret
 obtain ⟨k2, b2, hf⟩ := HK.out
 have hlen : (xs.take i ++ y :: xs.drop i).length = xs.length + 1 := by
  rw [List.length_append, List.length_take, List.length_cons, List.length_drop]
  omega
 refine ⟨G, rfl, ⟨hBw, hGm, Z.drop (2 + F2.length), ?_, ?_⟩, ?_⟩
 ·rw [hlen, List.length_drop]
  have h1 := HL.out.1
  have h2 := HL.out.2
  omega
 ·rw [hf]
  exact Blk_setRow_same (Bk.Blk.drew k2)
 ·exact Below_setRow b2.drew (Nat.le_refl _) _
theorem insM_any (a : Option Addr) (c : Nat) (xs : List Mn) (y : Mn) (gy B i : Nat) (w : World) (hr : GV mnenc 2 112 w B (.slice a xs.length c) xs) (hy : Bk.Blk w gy #[.string y.cu, .int .i64 y.am] 112) (hn : xs.length ≤ 100000) (hc : xs.length ≤ c) (hB : B ≤ w.heap.size) (hi : i ≤ xs.length) (hne : ∀ g, (Value.slice a xs.length c).ownBlock = some g → gy ≠ g) :
  Calls Tryz.prog 85 #[.slice a xs.length c, .int .i64 i, .slice (some ⟨gy, 0, none⟩) 1 1] w fun e w' => ∃ g' c', e = .returned (.slice (some ⟨g', 0, none⟩) (xs.length + 1) c') ∧ OwnR mnenc 2 112 w' B g' c' (xs.take i ++ y :: xs.drop i) ∧ Below B w w' ∧ (∀ b, (Value.slice a xs.length c).ownBlock ≠ some b → b < w.heap.size → w'.heap[b]? = w.heap[b]?) ∧ ((Value.slice a xs.length c).ownBlock = some g' ∨ w.heap.size ≤ g') := by
 rcases Nat.eq_or_lt_of_le hi with he | hlt
 ·subst he
  refine (insM_end a c xs y gy B w hr hy hn hc hB).mono ?_
  rintro e w' ⟨g', c', rfl, hgv, hb, hgr, hat⟩
  refine ⟨g', c', rfl, ?_, hb, fun b hb1 hb2 => hgr.block b hb2 (fun e => hb1 e.symm), ?_⟩
  ·rw [List.take_length, List.drop_length]
   have e : xs.length + 1 = (xs ++ [y]).length := by simp
   rw [e] at hgv
   exact gv_own hgv
  ·rcases hat with h | h
   ·exact .inl h
   ·exact .inr (by omega)
 ·obtain ⟨g, c0, hv, ho⟩ := OwnR.of hr.1 (fun hv => by
   have := Value.slice.inj hv
   omega)
  obtain ⟨ha, _, hc0⟩ := Value.slice.inj hv
  subst ha hc0
  have hob : (Value.slice (some ⟨g, 0, none⟩) xs.length c).ownBlock = some g := rfl
  rcases Nat.eq_or_lt_of_le hc with he | hlt2
  ·subst he
   refine (insM_grow g xs y gy B i w ho hy hn hlt hB).mono ?_
   rintro e w' ⟨c', rfl, ho', hb⟩
   exact ⟨_, c', rfl, ho', hb.mono hB, fun b _ hb2 => hb.block b hb2, .inr (Nat.le_refl _)⟩
  ·refine (insM_room g c xs y gy B i w ho hy hn hlt2 (hne g hob) hlt hB).mono ?_
   rintro e w' ⟨rfl, ho', hsz, hb, hk⟩
   exact ⟨g, c, rfl, ho', hb, fun b hb1 hb2 => hk b (fun e => hb1 (by rw [e]; exact hob)) hb2, .inl hob⟩
theorem flat_set : ∀ (out : List Mn) (i : Nat) (v : Int), i < out.length → (flat mnenc out).set (i * 2 + 1) (.int .i64 v) = flat mnenc (out.set i ⟨out[i]!.cu, v⟩)
 | [], i, v, h => absurd h (Nat.not_lt_zero _)
 | x :: t, 0, v, _ => by simp [flat, mnenc]
 | x :: t, i + 1, v, h => by
  have ih := flat_set t i v (by simpa using h)
  have e : (i + 1) * 2 + 1 = (i * 2 + 1) + 1 + 1 := by omega
  rw [flat_cons, e]
  have e2 : mnenc x ++ flat mnenc t = .string x.cu :: .int .i64 x.am :: flat mnenc t := rfl
  rw [e2, List.set_cons_succ, List.set_cons_succ, ih]
  have e3 : (x :: t)[i + 1]! = t[i]! := by
   rw [getElem!_pos (x :: t) (i + 1) h, getElem!_pos t i (by simpa using h)]
   rfl
  rw [e3, List.set_cons_succ, flat_cons]
  rfl
theorem own_setm {W : World} {B g c : Nat} {out : List Mn} {i : Nat} (h : OwnR mnenc 2 112 W B g c out) (hi : i < out.length) (v : Int) : OwnR mnenc 2 112 (W.setCell ⟨g, i * 2 + 1, none⟩ (.int .i64 v)) B g c (out.set i ⟨out[i]!.cu, v⟩) := by
 obtain ⟨h1, h2, X, h3, h4⟩ := h
 refine ⟨h1, h2, X, by rw [List.length_set]; exact h3, ?_⟩
 have hl : (flat mnenc out).length = out.length * 2 := flat_len mnenc_len _
 have e : (flat mnenc (out.set i ⟨out[i]!.cu, v⟩) ++ X).toArray = ((flat mnenc out ++ X).toArray).setIfInBounds (i * 2 + 1) (.int .i64 v) := by
  rw [List.setIfInBounds_toArray, List.set_append_left _ _ (by omega), flat_set out i v hi]
 rw [e]
 exact Bk.Blk.set_same h4
theorem own_am {W : World} {B g c : Nat} {out : List Mn} {i : Nat} (h : OwnR mnenc 2 112 W B g c out) (hi : i < out.length) : W.cell? ⟨g, i * 2 + 1, none⟩ = some (.int .i64 out[i]!.am) ∧ W.frozen? ⟨g, i * 2 + 1, none⟩ = false := by
 obtain ⟨b, off, ha, hc⟩ := rowat mnenc_len (OwnR.row h) (by omega)
 cases ha
 have hm := hc i hi 1 (.int .i64 out[i]!.am) rfl
 obtain ⟨h1, h2, X, h3, h4⟩ := h
 refine ⟨by simpa using hm, ?_⟩
 simp [World.frozen?, show W.heap[g]? = _ from h4]
def SmR (w : World) (l : List Lg) (g : Nat) (s3 s10 : Value) (W : World) : Prop := ∃ (k : Nat) (out : List Mn) (a : Option Addr) (c : Nat), k + g = l.length ∧ s10 = .int .i64 k ∧ s3 = .slice a out.length c ∧ GV mnenc 2 112 W w.heap.size (.slice a out.length c) out ∧ out.length ≤ c ∧ SumsOf out (l.take k) ∧ out.length ≤ k ∧ Below w.heap.size w W
theorem own_lt {W : World} {B : Nat} {a : Option Addr} {n c : Nat} {xs : List Mn} (h : GV mnenc 2 112 W B (.slice a n c) xs) {g : Nat} (hg : (Value.slice a n c).ownBlock = some g) : g < W.heap.size := by
 by_cases hv : (Value.slice a n c) = .slice none 0 0
 ·rw [hv] at hg
  cases hg
 ·obtain ⟨g', c', e, ho⟩ := OwnR.of h.1 hv
  rw [e] at hg
  cases hg
  exact ho.lt
theorem own_cap {W : World} {B g c : Nat} {xs : List Mn} (h : OwnR mnenc 2 112 W B g c xs) : xs.length ≤ c := by
 obtain ⟨_, _, X, hX, _⟩ := h
 omega
set_option maxHeartbeats 16000000 in
theorem sums_any (a0 : Option Addr) (cap : Nat) (l : List Lg) (w : World) (h : RowIn lgenc w a0 l) (hn : l.length ≤ 12) (ham : ∀ j, j < l.length → -1000000000000 ≤ l[j]!.am ∧ l[j]!.am ≤ 1000000000000) :
  Calls Tryz.prog 51 #[.slice a0 l.length cap] w fun e w' => ∃ out a c, e = .returned (.slice a out.length c) ∧ GV mnenc 2 112 w' w.heap.size (.slice a out.length c) out ∧ SumsOf out l ∧ out.length ≤ 12 ∧ Below w.heap.size w w' := by
 have HL := Lib.hid h
 have HM := Lib.hid ham
 clear h ham
 go_enter Tryz.func51, Tryz.ntmps51
 go_wp2_with fail
 go_loopg [3, 10] l.length (SmR w l)
 case atStart => exact ⟨0, [], none, 0, by omega, rfl, rfl, GV.nil _ _, Nat.le_refl _, SumsOf.nil, Nat.le_refl _, Below.refl _ _⟩
 case round =>
  obtain ⟨k, out, a, c, hk, rfl, rfl, hgv, hcc, hso, hok, hbr⟩ := hrel
  have HSO := Lib.hid hso
  clear hso
  by_cases hlt : k < l.length
  ·obtain ⟨b, off, rfl, hc⟩ := rowat lgenc_len HL.out (by omega)
   have hm := range_later hbr (hc k hlt)
   have hxm := HM.out k hlt
   clear hc
   obtain ⟨x, hxx⟩ : ∃ x, x = l[k]! := ⟨_, rfl⟩
   rw [← hxx] at hm hxm
   have HX := Lib.hid hxx
   clear hxx
   have cx : Below wr.heap.size wr (wr.alloc (.cells #[.int .i64 (x).ac, .int .i64 (x).am, .string (x).cu] 50)) := Bk.be
   have kx : Bk.Blk (wr.alloc (.cells #[.int .i64 (x).ac, .int .i64 (x).am, .string (x).cu] 50)) wr.heap.size _ 50 := Bk.Blk.nw10
   have c2 := bl2 cx hbr
   have z0r := Below.size hbr
   have HNE : Hid (∀ g, (Value.slice a out.length c).ownBlock = some g → wr.heap.size ≠ g) := Lib.hid (fun g hg e => by have := own_lt hgv hg; omega)
   go_upto_region 5 with ((refine wpList_load_mid rfl 50 _ rfl _ (off + k * 3) (by first | rfl | simp) ([.int .i64 (x).ac, .int .i64 (x).am, .string (x).cu]) _ (hm) Tryz.underlying50 rfl (by kernel_rfl) ?_))
   have hgv2 := hgv.later cx
   clear hm hbr hgv cx
   generalize (wr.alloc (.cells _ 50)) = w2 at *
   generalize wr.heap.size = g2 at *
   have x2 := kx.c2
   go_wp2_with fail
   obtain ⟨a1, c1, he1, hrow, _⟩ := GV.row hgv2
   obtain ⟨ha1, _, hc1⟩ := Value.slice.inj he1
   subst ha1 hc1
   refine (bsM_any 83 #[] x.cu (fun m => cmpS m.cu x.cu) a c out w2 (by omega) hrow (enters_of Tryz.func83 (by kernel_rfl) rfl) (smc1_any _ _ _) (HSO.out.srt.mono x.cu)).mono ?_
   rintro e w3 ⟨i, rfl, hbs, hb⟩
   have c3' := bl2 hb c2
   replace kx := kx.later hb
   have hgv3 := hgv2.later hb
   clear hb c2 x2 hgv2 hrow he1
   cases hf : BsF (fun m : Mn => cmpS m.cu x.cu) out i
   ·have hgt : ∀ t, i ≤ t → t < out.length → 0 < cmpS out[t]!.cu x.cu := fun t h1 h2 => by
     have h0 := hbs.2.2 t h1 h2
     have hn0 : cmpS out[t]!.cu x.cu ≠ 0 := fun e => by
      by_cases ht : t = i
      ·subst ht
       have hf' := hf
       unfold BsF at hf'
       have e' := e
       rw [getElem!_pos out t h2] at e'
       simp [h2] at hf'
       exact hf' e'
      ·have h3 : 0 ≤ cmpS out[i]!.cu x.cu := hbs.2.2 i (Nat.le_refl _) (by omega)
       have h4 := HSO.out.srt i t (by omega) h2
       have h5 := cmpS_congr (cmpS_eq.1 e) (c := out[i]!.cu)
       rw [h5.2] at h4
       omega
     have h6 : 0 ≤ cmpS out[t]!.cu x.cu := h0
     omega
    have hlo : ∀ t, t < i → cmpS out[t]!.cu x.cu < 0 := hbs.2.1
    have HS0 := Lib.hid (And.intro hgt (And.intro hlo hbs.1))
    have z3 := Below.size c3'
    clear hgt hf hlo
    have x2 := kx.c2
    go_wp2_with fail
    have hyb := Bk.Blk.nw10 (W := w3) (cs := #[.string x.cu, .int .i64 0]) (t := 112)
    have hgx : GV mnenc 2 112 (w3.alloc (.cells #[.string x.cu, .int .i64 0] 112)) w.heap.size (.slice a out.length c) out := hgv3.later ((Below.refl _ _).alloc (Nat.le_refl _) _)
    refine (insM_any a c out ⟨x.cu, 0⟩ w3.heap.size w.heap.size i _ hgx hyb (by omega) hcc (by simp; omega) hbs.1 (fun g hg e => by have := own_lt hgv3 hg; omega)).mono ?_
    rintro e w4 ⟨g3, c3, rfl, ho, hb4, hkeep, hat⟩
    have c4 : Below w.heap.size w w4 := (c3'.alloc z3 _).trans hb4
    have hlt3 := kx.lt
    replace kx : Bk.Blk w4 g2 #[.int .i64 (x).ac, .int .i64 (x).am, .string (x).cu] 50 := (hkeep g2 (fun hh => HNE.out g2 hh rfl) (by simp; omega)).trans (Bk.Blk.alloc kx)
    have hne : g2 ≠ g3 := by
     rcases hat with h | h
     ·exact HNE.out g3 h
     ·simp at h; omega
    obtain ⟨out3, hout3⟩ : ∃ o : List Mn, o = out.take i ++ ⟨x.cu, 0⟩ :: out.drop i := ⟨_, rfl⟩
    have hat3 : out3[i]! = ⟨x.cu, 0⟩ := by rw [hout3, ins_at out i _ HS0.out.2.2 i (by have := HS0.out.2.2; omega), if_neg (Nat.lt_irrefl _), if_pos rfl]
    have hl3 : out3.length = out.length + 1 := by rw [hout3]; exact ins_len out i _ HS0.out.2.2
    have HS : Hid (SumsOf (out3.set i ⟨out3[i]!.cu, out3[i]!.am + x.am⟩) (l.take (k + 1))) := Lib.hid (by
     rw [hat3]
     have e1 : out3.set i ⟨x.cu, 0 + x.am⟩ = out.take i ++ ⟨x.cu, x.am⟩ :: out.drop i := by
      have ht : (out.take i).length = i := by rw [List.length_take]; have := HS0.out.2.2; omega
      rw [hout3, List.set_append_right _ _ (by omega), ht, Nat.sub_self, List.set_cons_zero, Int.zero_add]
     show SumsOf (out3.set i ⟨x.cu, 0 + x.am⟩) (l.take (k + 1))
     rw [e1, HX.out]
     exact SumsOf.ins HSO.out hlt HS0.out.2.2 (by rw [← HX.out]; exact HS0.out.2.1) (by rw [← HX.out]; exact HS0.out.1))
    have HBD : Hid (-13000000000000 ≤ out3[i]!.am + x.am ∧ out3[i]!.am + x.am ≤ 13000000000000) := Lib.hid (by
     rw [hat3]
     show -13000000000000 ≤ (0 : Int) + x.am ∧ (0 : Int) + x.am ≤ 13000000000000
     omega)
    have HL3 : Hid (out3.length = out.length + 1) := Lib.hid hl3
    have HK3 : Hid (out3.length ≤ k + 1) := Lib.hid (by rw [hl3]; omega)
    have hi3 : i < out3.length := by rw [hl3]; have := HS0.out.2.2; omega
    rw [← hout3] at ho
    clear hat3 hl3 hout3 hgv3 hgx hyb hkeep hat hb4 hlt3 z3 x2 c3' HNE HSO HS0 hbs
    obtain ⟨s0, hs0⟩ : ∃ s0 : Int, s0 = out3[i]!.am := ⟨_, rfl⟩
    have o1 := (own_am ho hi3).1
    rw [← hs0] at o1
    have HQS : Hid (SumsOf (out3.set i ⟨out3[i]!.cu, s0 + x.am⟩) (l.take (k + 1))) := Lib.hid (by rw [hs0]; exact HS.out)
    have hbd : -13000000000000 ≤ s0 + x.am ∧ s0 + x.am ≤ 13000000000000 := by rw [hs0]; exact HBD.out
    have hsum : IntKind.i64.wrap (s0 + x.am) = s0 + x.am := by rw [IntKind.wrap_i64]; omega
    have HI3 := Lib.hid hi3
    have hi3' : (i : Int) < (out3.length : Int) := by omega
    clear hs0 hbd HS
    have hi4 : (i : Int) < (out.length : Int) + 1 := by have := HL3.out; omega
    have hi5 : i < out.length + 1 := by have := HL3.out; omega
    have q1 : ∀ W', Reg.Cls w4 W' → W'.cell? ⟨g3, i * 2 + 1, none⟩ = some (.int .i64 s0) := fun W' hW => hW.cell o1
    have q2 : ∀ W', Reg.Cls w4 W' → W'.cell? ⟨g2, 1, none⟩ = some (.int .i64 x.am) := fun W' hW => (kx.later hW).c1
    clear o1
    go_wp2_with fail
    refine Reg.region_tail 10 (by kernel_rfl) (by kernel_rfl) ?_
    simp only [List.take_succ_cons, List.take_zero, List.drop_succ_cons, List.drop_zero]
    iterate 10 (first | go_big_quiet_skip | (go_big_quiet_want; (first | (go_big_quiet_op; go_big_quiet_on) | (apply Reg.quiet_run; (intro W hW; skip; go_simp; (first | done | rfl | exact ⟨rfl, rfl⟩ )); (simp only [Act.put, List.setIfInBounds_toArray, List.set_cons_zero, List.set_cons_succ]; go_big_quiet_on)) | (apply Reg.quiet_call; (intro W hW; go_simp; (first | done | rfl | exact ⟨rfl, rfl⟩)); (intro W hW; (first | fail)); (simp only [Act.put, List.setIfInBounds_toArray, List.set_cons_zero, List.set_cons_succ]; go_big_quiet_on)))))
    refine wpQuiet_nil ?_
    intro w5 hW
    have c5 := bl2 hW c4
    have ho5 := ho.later hW
    clear hW q1 q2 c4 ho
    have o1 := (own_am ho5 HI3.out).1
    have of1 := (own_am ho5 HI3.out).2
    have z5 := Below.size c5
    go_wp2_with fail
    have ho6 := own_setm ho5 HI3.out (s0 + x.am)
    have hB3 := ho5.1
    clear o1 of1
    go_roundg (gk - 1)
    case measure => omega
    case rel => exact ⟨k + 1, out3.set i ⟨out3[i]!.cu, s0 + x.am⟩, some ⟨g3, 0, none⟩, c3, by omega, by go_num, by first | (rw [List.length_set]; exact congrArg (fun n => Value.slice (some ⟨g3, 0, none⟩) n c3) HL3.out.symm) | (rw [List.length_set]; exact congrArg (fun n => Value.slice (some ⟨g3, 0, none⟩) n c3) HL3.out) | (rw [List.length_set]), by have := Sr.OwnR.gv mnenc_len (by decide) ho6; exact this, by rw [List.length_set]; exact own_cap ho5, HQS.out, by rw [List.length_set]; exact HK3.out, c5.setCell hB3 _⟩
   ·obtain ⟨hil, hie⟩ : i < out.length ∧ cmpS out[i]!.cu x.cu = 0 := by
     unfold BsF at hf
     simpa using hf
    obtain ⟨g3, c3, hv, ho⟩ := OwnR.of hgv3.1 (fun hv => by
     have := Value.slice.inj hv
     omega)
    obtain ⟨ha, _, hc0⟩ := Value.slice.inj hv
    subst ha hc0
    have hne : g2 ≠ g3 := HNE.out g3 rfl
    obtain ⟨out3, hout3⟩ : ∃ o : List Mn, o = out := ⟨_, rfl⟩
    have HS : Hid (SumsOf (out3.set i ⟨out3[i]!.cu, out3[i]!.am + x.am⟩) (l.take (k + 1))) := Lib.hid (by
     rw [hout3, HX.out]
     exact SumsOf.add HSO.out hlt hil (by rw [← HX.out]; exact cmpS_eq.1 hie))
    have HBD : Hid (-13000000000000 ≤ out3[i]!.am + x.am ∧ out3[i]!.am + x.am ≤ 13000000000000) := Lib.hid (by
     rw [hout3]
     have h1 := (HSO.out.val out[i]! (by rw [getElem!_pos out i hil]; exact List.getElem_mem hil)).1
     have h2 := sumC_bd HM.out (k := k) (by omega) out[i]!.cu
     rw [h1]
     omega)
    have HL3 : Hid (out3.length = out.length) := Lib.hid (by rw [hout3])
    have HK3 : Hid (out3.length ≤ k + 1) := Lib.hid (by rw [hout3]; omega)
    have hi3 : i < out3.length := by rw [hout3]; exact hil
    rw [← hout3] at ho ⊢
    clear hout3 hf hie hil hv hgv3 HNE HSO
    generalize w3 = w4 at *
    have c4 := c3'
    clear c3'
    obtain ⟨s0, hs0⟩ : ∃ s0 : Int, s0 = out3[i]!.am := ⟨_, rfl⟩
    have o1 := (own_am ho hi3).1
    rw [← hs0] at o1
    have HQS : Hid (SumsOf (out3.set i ⟨out3[i]!.cu, s0 + x.am⟩) (l.take (k + 1))) := Lib.hid (by rw [hs0]; exact HS.out)
    have hbd : -13000000000000 ≤ s0 + x.am ∧ s0 + x.am ≤ 13000000000000 := by rw [hs0]; exact HBD.out
    have hsum : IntKind.i64.wrap (s0 + x.am) = s0 + x.am := by rw [IntKind.wrap_i64]; omega
    have HI3 := Lib.hid hi3
    have hi3' : (i : Int) < (out3.length : Int) := by omega
    clear hs0 hbd HS
    have hi4 : (i : Int) < (out.length : Int) := by have := HL3.out; omega
    have hi5 : i < out.length := by have := HL3.out; omega
    have q1 : ∀ W', Reg.Cls w4 W' → W'.cell? ⟨g3, i * 2 + 1, none⟩ = some (.int .i64 s0) := fun W' hW => hW.cell o1
    have q2 : ∀ W', Reg.Cls w4 W' → W'.cell? ⟨g2, 1, none⟩ = some (.int .i64 x.am) := fun W' hW => (kx.later hW).c1
    clear o1
    go_wp2_with fail
    refine Reg.region_tail 10 (by kernel_rfl) (by kernel_rfl) ?_
    simp only [List.take_succ_cons, List.take_zero, List.drop_succ_cons, List.drop_zero]
    iterate 10 (first | go_big_quiet_skip | (go_big_quiet_want; (first | (go_big_quiet_op; go_big_quiet_on) | (apply Reg.quiet_run; (intro W hW; skip; go_simp; (first | done | rfl | exact ⟨rfl, rfl⟩ )); (simp only [Act.put, List.setIfInBounds_toArray, List.set_cons_zero, List.set_cons_succ]; go_big_quiet_on)) | (apply Reg.quiet_call; (intro W hW; go_simp; (first | done | rfl | exact ⟨rfl, rfl⟩)); (intro W hW; (first | fail)); (simp only [Act.put, List.setIfInBounds_toArray, List.set_cons_zero, List.set_cons_succ]; go_big_quiet_on)))))
    refine wpQuiet_nil ?_
    intro w5 hW
    have c5 := bl2 hW c4
    have ho5 := ho.later hW
    clear hW q1 q2 c4 ho
    have o1 := (own_am ho5 HI3.out).1
    have of1 := (own_am ho5 HI3.out).2
    have z5 := Below.size c5
    go_wp2_with fail
    have ho6 := own_setm ho5 HI3.out (s0 + x.am)
    have hB3 := ho5.1
    clear o1 of1
    go_roundg (gk - 1)
    case measure => omega
    case rel => exact ⟨k + 1, out3.set i ⟨out3[i]!.cu, s0 + x.am⟩, some ⟨g3, 0, none⟩, c, by omega, by go_num, by first | (rw [List.length_set]; exact congrArg (fun n => Value.slice (some ⟨g3, 0, none⟩) n c) HL3.out.symm) | (rw [List.length_set]; exact congrArg (fun n => Value.slice (some ⟨g3, 0, none⟩) n c) HL3.out) | (rw [List.length_set]), by have := Sr.OwnR.gv mnenc_len (by decide) ho6; exact this, by rw [List.length_set]; exact own_cap ho5, HQS.out, by rw [List.length_set]; exact HK3.out, c5.setCell hB3 _⟩
  ·obtain rfl : k = l.length := by omega
   have hS := HSO.out
   rw [List.take_length] at hS
   have HS := Lib.hid hS
   clear hS HSO
   go_wp2_with fail
   go_ret
   exact ⟨out, a, c, rfl, hgv, HS.out, by omega, hbr⟩
end Go.Proofs.YtjhpiclnpmdjnaaGreatDoor.Bm
