/-
  slices.DeleteFunc at installments, over a row of the call's own, whatever the predicate; due of package loan.
-/
import Derived.Test.YtaibocobeibobaaLn3
import Derived.Test.YtaibocobeibobaaLn5
import Derived.Lib.LazyBuf
import Derived.Laws.IdiomCopy
namespace Go.Proofs.Ytaibocobeibobaa.Ln
open Go.RowKit
open Go.Proofs.Ytaibocobeibobaa

/-- What DeleteFunc has done: the first i places hold what of the first j elements is kept; from j on all is as it was. -/
structure DelInv {α : Type} [Inhabited α] (p : α → Bool) (xs ys : List α) (i j : Nat) : Prop where
  len : ys.length = xs.length
  lt : i < j
  le : j ≤ xs.length
  done : ys.take i = (xs.take j).filter fun x => !p x
  rest : ∀ m, j ≤ m → m < xs.length → ys[m]! = xs[m]!
theorem filter_none {α : Type} {p : α → Bool} {l : List α} (h : ∀ x ∈ l, p x = false) : (l.filter fun x => !p x) = l := by
  rw [List.filter_eq_self]; intro x hx; simp [h x hx]
section
variable {α : Type} [Inhabited α] {p : α → Bool} {xs ys : List α} {i j : Nat}
theorem take_succ' {l : List α} {k : Nat} (h : k < l.length) : l.take (k + 1) = l.take k ++ [l[k]!] := by
  rw [List.take_add_one, List.getElem?_eq_getElem h, getElem!_pos l k h]; rfl
theorem DelInv.start {k : Nat} (hk : k < xs.length) (ht : p xs[k]! = true) (hall : ∀ j, j < k → p xs[j]! = false) : DelInv p xs xs k (k + 1) := by
  refine ⟨rfl, by omega, hk, ?_, fun _ _ _ => rfl⟩
  rw [take_succ' hk, List.filter_append, filter_none (p := p) (l := xs.take k)]
  · generalize xs[k]! = y at *
    simp [ht]
  · intro x hx
    obtain ⟨m, hm, rfl⟩ := List.mem_iff_getElem.1 hx
    have hm' : m < k := by simp at hm; omega
    have := hall m hm'
    rw [getElem!_pos xs m (by omega)] at this
    simpa using this
theorem DelInv.keep (h : DelInv p xs ys i j) (hj : j < xs.length) (hp : p xs[j]! = false) : DelInv p xs (ys.set i xs[j]!) (i + 1) (j + 1) := by
  have hl := h.len
  have hlt := h.lt
  refine ⟨by simpa using hl, by omega, hj, ?_, fun m hm hm' => ?_⟩
  · rw [take_succ' hj, List.filter_append, ← h.done, take_succ' (by simp; omega), List.take_set_of_le (Nat.le_refl i)]
    have hg : (ys.set i xs[j]!)[i]! = xs[j]! := by rw [getElem!_pos _ i (by simp; omega)]; simp
    rw [hg]
    generalize xs[j]! = y at *
    simp [hp]
  · have := h.rest m (by omega) hm'
    rw [← this]
    simp [List.getElem!_eq_getElem?_getD, List.getElem?_set_ne (show i ≠ m by omega)]
theorem DelInv.skip (h : DelInv p xs ys i j) (hj : j < xs.length) (hp : p xs[j]! = true) : DelInv p xs ys i (j + 1) := by
  refine ⟨h.len, by have := h.lt; omega, hj, ?_, fun m hm hm' => h.rest m (by omega) hm'⟩
  rw [take_succ' hj, List.filter_append, ← h.done]
  generalize xs[j]! = y at *
  simp [hp]
theorem DelInv.fin (h : DelInv p xs ys i xs.length) : ys.take i = (xs.filter fun x => !p x) ∧ (xs.filter fun x => !p x).length = i := by
  have hd := h.done
  rw [List.take_length] at hd
  refine ⟨hd, ?_⟩
  rw [← hd, List.length_take, h.len]
  have := h.lt; omega
end
/-- 'clear(s)' of n elements of several cells. -/
theorem run_clear_k {P : Program} (w : World) (t e ty : TypeId) (z : Value) (ht : P.underlying t = some (.slice e)) (hv : ∀ w, (zeroValue e).run P w = .ok z w) (hz : 0 < z.cells.size) (h1 : ∀ u ∈ z.cells.toList, u.oneCell' = true) (b o n c : Nat) (hn : 0 < n)
    (hc : ∀ j, j < n * z.cells.size → (w.cell? ⟨b, o + j, none⟩).isSome = true) (hf : ∀ j, j < n * z.cells.size → w.frozen? ⟨b, o + j, none⟩ = false) :
    (Builtin.clear_ #[t] ty #[.slice (some ⟨b, o, none⟩) n c]).run P w = .ok (.tuple #[]) (w.setCells b o (Builtin.zeroCells z.cells n).toList) := by
  have hlen : (Builtin.zeroCells z.cells n).toList.length = n * z.cells.size := by simp [Builtin.zeroCells]
  have hst := run_storeCells_cells (P := P) b o (Builtin.zeroCells z.cells n).toList 0 w (by rw [hlen]; simpa using hc) (by rw [hlen]; simpa using hf) (by
    intro v hv'
    simp only [Builtin.zeroCells, Array.toList_map, List.mem_map] at hv'
    obtain ⟨i, _, rfl⟩ := hv'
    have hi : i % z.cells.size < z.cells.size := Nat.mod_lt _ hz
    rw [getElem!_pos z.cells _ hi]
    exact h1 _ (by simp))
  simp only [Nat.add_zero] at hst
  obtain ⟨m, rfl⟩ : ∃ m, n = m + 1 := ⟨n - 1, by omega⟩
  simp [Builtin.clear_, run_underlying ht, hv, hst]
/-- One element of a flat row is stored. -/
theorem flat_take {α : Type} {enc : α → List Value} {k : Nat} (hk : ∀ x, (enc x).length = k) : ∀ (xs : List α) (i m : Nat), m < i * k → i ≤ xs.length → (flat enc (xs.take i))[m]? = (flat enc xs)[m]?
  | [], i, m, h, hi => by simp at hi; subst hi; simp at h
  | x :: xs, 0, m, h, _ => by simp at h
  | x :: xs, i + 1, m, h, hi => by
    unfold flat
    rw [List.take_succ_cons, List.flatMap_cons, List.flatMap_cons]
    rcases Nat.lt_or_ge m k with hm | hm
    · rw [List.getElem?_append_left (by rw [hk]; exact hm), List.getElem?_append_left (by rw [hk]; exact hm)]
    · rw [List.getElem?_append_right (by rw [hk]; exact hm), List.getElem?_append_right (by rw [hk]; exact hm), hk]
      exact flat_take hk xs i (m - k) (by rw [Nat.add_mul] at h; omega) (by simpa using hi)

theorem dflat_set (v : Du) (X : List Value) : ∀ (ys : List Du) (i : Nat), i < ys.length → (((((flat denc ys ++ X).toArray.setIfInBounds (i * 4) (.int .i64 v.no)).setIfInBounds (i * 4 + 1) (.int .i64 v.day)).setIfInBounds (i * 4 + 2) (.int .i64 v.pr)).setIfInBounds (i * 4 + 3) (.int .i64 v.it)) = (flat denc (ys.set i v) ++ X).toArray := by
  intro ys i h
  simp only [List.setIfInBounds_toArray]
  congr 1
  induction ys generalizing i with
  | nil => simp at h
  | cons y ys ih =>
    cases i with
    | zero => simp [flat, denc]
    | succ i =>
      have := ih i (by simpa using h)
      simp only [flat, List.flatMap_cons, denc, List.set_cons_succ, List.cons_append, List.nil_append] at this ⊢
      rw [show (i + 1) * 4 = i * 4 + 4 by omega]
      simp only [show ∀ a b : Nat, a + 4 + b = a + b + 4 from fun a b => by omega, List.set_cons_succ]
      simpa using this
/-- The cells of an element of a row that is known whole. -/
theorem dblk_cells {W : World} {g : Nat} {ys : List Du} {X : List Value} {bt : TypeId} (h : Bk.Blk W g ((flat denc ys ++ X).toArray) bt) {j : Nat} (hj : j < ys.length) :
    W.cell? ⟨g, j * 4, none⟩ = some (.int .i64 ys[j]!.no) ∧ W.cell? ⟨g, j * 4 + 1, none⟩ = some (.int .i64 ys[j]!.day) ∧ W.cell? ⟨g, j * 4 + 2, none⟩ = some (.int .i64 ys[j]!.pr) ∧ W.cell? ⟨g, j * 4 + 3, none⟩ = some (.int .i64 ys[j]!.it) := by
  have c : ∀ i, i < 4 → W.cell? ⟨g, j * 4 + i, none⟩ = (denc ys[j]!)[i]? := fun i hi => by
    rw [h.cell]
    have hg := flat_get denc_len ys j i hj hi
    have hl := flat_len denc_len ys
    rw [← hg]
    simp [List.getElem?_append_left (show j * 4 + i < (flat denc ys).length by rw [hl]; omega)]
  exact ⟨by simpa [denc] using c 0 (by omega), by simpa [denc] using c 1 (by omega), by simpa [denc] using c 2 (by omega), by simpa [denc] using c 3 (by omega)⟩
/-- Where DeleteFunc stands. -/
def dDR (bt : TypeId) (w : World) (B g : Nat) (X : List Value) (p : Du → Bool) (xs : List Du) (gg : Nat) (s5 s6 : Value) (W : World) : Prop := ∃ (i j : Nat) (ys : List Du), j + gg = xs.length ∧ s5 = .int .i64 i ∧ s6 = .int .i64 j ∧ DelInv p xs ys i j ∧ Bk.Blk W g ((flat denc ys ++ X).toArray) bt ∧ Below B w W
/-- A predicate that is called answers p, in every world that is as w was below B. -/
def dPred (g0 : Nat) (lb : Array Value) (p : Du → Bool) (B : Nat) (w : World) : Prop := ∀ (d : Du) (W : World), Below B w W → Calls Try.prog g0 (#[.agg #[.int .i64 d.no, .int .i64 d.day, .int .i64 d.pr, .int .i64 d.it]] ++ lb) W fun e w' => e = .returned (.bool (p d)) ∧ Below W.heap.size W w'

set_option maxHeartbeats 4000000 in
theorem ddel_any (g0 : Nat) (lb : Array Value) (p : Du → Bool) (B g c : Nat) (xs : List Du) (w : World) (eg : ∀ args w, (callFunc g0 args).run Try.prog w = .ok (.enter g0 args) w) (hp : dPred g0 lb p B w) {bt : TypeId} (ho : OwnR denc 4 bt w B g c xs) (hn : xs.length ≤ 100000) (hcx : xs.length ≤ c) :
    Calls Try.prog 47 #[.slice (some ⟨g, 0, none⟩) xs.length c, .func (.func g0) #[] lb] w fun e w' => e = .returned (.slice (some ⟨g, 0, none⟩) (xs.filter fun x => !p x).length c) ∧ RowIn denc w' (some ⟨g, 0, none⟩) (xs.filter fun x => !p x) ∧ Below B w w' := by
  have hrow := ho.row
  obtain ⟨hB, hcm, X, hX, hk⟩ := ho
  have HI := Lib.hid (ixd_any g0 lb p (some ⟨g, 0, none⟩) c xs w (dues_of_row (by omega) hrow) eg (fun d W h => hp d W (h.mono (Nat.le_trans hB (Nat.le_of_lt hk.lt)))))
  have HP := Lib.hid hp
  have hgs := hk.lt
  obtain ⟨fl, hfl⟩ : ∃ fl, fl = (xs.filter fun x => !p x) := ⟨_, rfl⟩
  rw [← hfl]
  have HFL := Lib.hid hfl
  have HK := Lib.hid hk
  have HROW := Lib.hid hrow
  clear hfl hk hp hrow
  go_enter Try.func47, Try.ntmps47
  go_wp2_with fail
  refine (HI.out).mono ?_
  rintro e w1 ⟨r, rfl, hr, hb1⟩
  rcases hr with ⟨rfl, hall⟩ | ⟨k0, hk0, rfl, ht, hall⟩
  · have HE := Lib.hid (show fl = xs by
      rw [HFL.out]
      exact filter_none fun x hx => by
        obtain ⟨m, hm, rfl⟩ := List.mem_iff_getElem.1 hx
        have := hall m hm
        rwa [getElem!_pos xs m hm] at this)
    clear hall
    go_wp2_with fail
    go_ret
    exact ⟨by rw [HE.out]; rfl, by rw [HE.out]; exact HROW.out.later hb1, hb1.mono (Nat.le_trans hB (Nat.le_of_lt hgs))⟩
  · have hne1 : ((k0 : Int) == -1) = false := beq_eq_false_iff_ne.2 (by omega)
    have HST := Lib.hid (DelInv.start hk0 ht hall)
    have hkb := HK.out.later hb1
    have hbw := hb1.mono (Nat.le_trans hB (Nat.le_of_lt hgs))
    clear hall ht hb1
    go_wp2_with fail
    go_loopg [5, 6] (xs.length - (k0 + 1)) (dDR bt w B g X p xs)
    case atStart => exact ⟨k0, k0 + 1, xs, by omega, rfl, by go_num, HST.out, hkb, hbw⟩
    case round =>
      clear hkb hbw
      obtain ⟨i, j, ys, hj, rfl, rfl, inv, hkb, hbr⟩ := hrel
      have hyl := inv.len
      have hij := inv.lt
      have hjx := inv.le
      have hzr := hbr.size
      have hgr := hkb.lt
      by_cases hlt : j < xs.length
      · have hcl := dblk_cells hkb (show j < ys.length by omega)
        rw [inv.rest j (Nat.le_refl j) hlt] at hcl
        have HINV := Lib.hid inv
        generalize hv : xs[j]! = v at *
        have HV := Lib.hid hv
        obtain ⟨c0, c1, c2, c3⟩ := hcl
        clear inv hv
        have hcall := HP.out v (wr.alloc (.cells #[.int .i64 v.no, .int .i64 v.day, .int .i64 v.pr, .int .i64 v.it] 51)) (hbr.alloc (by omega) _)
        go_wp2_with fail
        refine hcall.mono ?_
        rintro e w2 ⟨rfl, hb2⟩
        have hvb := Bk.Blk.later (g := wr.heap.size) hb2 (Bk.Blk.nw10 (W := wr) (cs := #[.int .i64 v.no, .int .i64 v.day, .int .i64 v.pr, .int .i64 v.it]) (t := 51))
        have hkb2 := (hkb.alloc (o := .cells #[.int .i64 v.no, .int .i64 v.day, .int .i64 v.pr, .int .i64 v.it] 51)).later hb2
        have hbr2 : Below B w w2 := (hbr.alloc (show B ≤ wr.heap.size by omega) _).trans (hb2.mono (by simp; omega))
        clear hkb hbr hb2 hcall c0 c1 c2 c3
        cases hq : p v
        · have HQ := Lib.hid hq
          clear hq
          have e0 := hvb.c0
          have e1 := hvb.c1
          have e2 := hvb.c2
          have e3 := hvb.c3
          have f0 := hkb2.free (i * 4)
          have f1 := hkb2.free (i * 4 + 1)
          have f2 := hkb2.free (i * 4 + 2)
          have f3 := hkb2.free (i * 4 + 3)
          have hix : i < xs.length := by omega
          obtain ⟨d0, d1, d2, d3⟩ := dblk_cells hkb2 (show i < ys.length by omega)
          generalize ys[i]! = u at *
          go_wp2_with fail
          go_roundg (gk - 1)
          case measure => omega
          case rel =>
            refine ⟨i + 1, j + 1, ys.set i v, by omega, by go_num, by go_num, ?_, ?_, ?_⟩
            · have := HINV.out.keep hlt (by rw [HV.out]; exact HQ.out)
              rwa [HV.out] at this
            · rw [← dflat_set v X ys i (by omega)]
              exact (Bk.Blk.set_same (Bk.Blk.set_same (Bk.Blk.set_same (Bk.Blk.set_same hkb2))))
            · exact (Below.setCell (Below.setCell (Below.setCell (Below.setCell hbr2 hB _) hB _) hB _) hB _)
        · have HQ := Lib.hid hq
          clear hq
          go_wp2_with fail
          go_roundg (gk - 1)
          case measure => omega
          case rel => exact ⟨i, j + 1, ys, by omega, rfl, by go_num, HINV.out.skip hlt (by rw [HV.out]; exact HQ.out), hkb2, hbr2⟩
      · have hjn : j = xs.length := by omega
        rw [hjn] at inv
        obtain ⟨hf1, hf2⟩ := inv.fin
        have HF1 := Lib.hid hf1
        have HF2 := Lib.hid hf2
        clear hf1 hf2 inv
        have hix : i < xs.length := by omega
        have hic : i < c := by omega
        have hl := flat_len denc_len ys
        have hcl : ∀ ty, (Builtin.clear_ #[24] ty #[.slice (some ⟨g, i * 4, none⟩) (xs.length - i) (c - i)]).run Try.prog wr = .ok (.tuple #[]) (wr.setCells g (i * 4) (Builtin.zeroCells #[.int .i64 0, .int .i64 0, .int .i64 0, .int .i64 0] (xs.length - i)).toList) := fun ty =>
          run_clear_k wr _ _ ty (.agg #[.int .i64 0, .int .i64 0, .int .i64 0, .int .i64 0]) Try.underlying24 Try.zeroValue51 (by decide) (by intro u hu; simp [Value.cells] at hu; subst hu; rfl) g (i * 4) (xs.length - i) (c - i) (by omega)
            (fun m hm => by
              rw [hkb.cell]
              simp [Value.cells] at hm
              simp [show i * 4 + m < (flat denc ys).length + X.length by rw [hl]; omega])
            (fun m _ => hkb.free _)
        have HKB := Lib.hid hkb
        clear hkb
        go_wp2_with fail
        go_ret
        refine ⟨by rw [HFL.out, HF2.out]; rfl, ?_, Go.below_setCells hB _ _ _ hbr⟩
        rw [HFL.out, ← HF1.out]
        intro _
        refine ⟨g, 0, rfl, fun m u hm => ?_⟩
        have hm2 : m < i * 4 := by
          have := (List.getElem?_eq_some_iff.1 hm).1
          rw [flat_len denc_len, List.length_take] at this
          have : min i ys.length * 4 ≤ i * 4 := Nat.mul_le_mul_right _ (Nat.min_le_left ..)
          omega
        rw [flat_take denc_len ys i m hm2 (by omega)] at hm
        rw [Nat.zero_add, World.cell?_setCells_out g _ _ _ _ (fun _ _ => .inl hm2), HKB.out.cell]
        have := (List.getElem?_eq_some_iff.1 hm).1
        simp [List.getElem?_append_left this, hm]

theorem dix_nil (g0 : Nat) (lb : Array Value) (w : World) :
    Calls Try.prog 51 #[.slice none 0 0, .func (.func g0) #[] lb] w fun e w' => e = .returned (.int .i64 (-1)) ∧ Below w.heap.size w w' := by
  go_enter Try.func51, Try.ntmps51
  go_wp2_with fail
  go_loopg [8] 0 (fun _ s8 W => s8 = .int .i64 0 ∧ W = w)
  case atStart => exact ⟨rfl, rfl⟩
  case round =>
    obtain ⟨rfl, rfl⟩ := hrel
    go_wp2_with fail
    go_ret
    exact ⟨rfl, Below.refl _ _⟩
theorem ddel_nil (g0 : Nat) (lb : Array Value) (w : World) :
    Calls Try.prog 47 #[.slice none 0 0, .func (.func g0) #[] lb] w fun e w' => e = .returned (.slice none 0 0) ∧ Below w.heap.size w w' := by
  have HI := Lib.hid (dix_nil g0 lb w)
  go_enter Try.func47, Try.ntmps47
  go_wp2_with fail
  refine (HI.out).mono ?_
  rintro e w1 ⟨rfl, hb1⟩
  go_wp2_with fail
  go_ret
  exact ⟨rfl, hb1⟩
/-- The closure of due. -/
theorem due1_any (on : Int) (b B : Nat) (w : World) (hb : b < B) (hc : w.cell? ⟨b, 0, none⟩ = some (.int .i64 on)) : dPred 48 #[.pointer (some ⟨b, 0, none⟩)] (fun d => decide (on < d.day)) B w := by
  intro d W hW
  have hc' : W.cell? ⟨b, 0, none⟩ = some (.int .i64 on) := (hW.cell (p := ⟨b, 0, none⟩) hb).trans hc
  have hlt := World.block_lt_of_cell? _ _ hc'
  have hne : b ≠ W.heap.size := by
    have : b < W.heap.size := hlt
    omega
  show Calls Try.prog 48 #[.agg #[.int .i64 d.no, .int .i64 d.day, .int .i64 d.pr, .int .i64 d.it], .pointer (some ⟨b, 0, none⟩)] W _
  go_enter Try.func48, Try.ntmps48
  go_wp2_with fail
  go_ret
  exact ⟨by simp, (Below.refl _ _).alloc (Nat.le_refl _) _⟩
theorem due_filter (ds : List Du) (on : Int) : (ds.filter fun d => !decide (on < d.day)) = due ds on := by
  unfold due
  apply List.filter_congr
  intro d _
  by_cases h : on < d.day
  · rw [decide_eq_true h, decide_eq_false (by omega)]; rfl
  · rw [decide_eq_false h, decide_eq_true (by omega)]; rfl
theorem due_len (ds : List Du) (on : Int) : (due ds on).length ≤ ds.length := List.length_filter_le ..
set_option maxHeartbeats 2000000 in
theorem due_any (a : Option Addr) (cap : Nat) (ds : List Du) (on : Int) (w : World) (h : DuesIn w a ds) (hl : ds.length ≤ 100000) :
    Calls Try.prog 29 #[.slice a ds.length cap, .int .i64 on] w fun e w' => ∃ a' c', e = .returned (.slice a' (due ds on).length c') ∧ DuesIn w' a' (due ds on) ∧ Below w.heap.size w w' := by
  have HC := Lib.hid (fun (W : World) (hb : Below w.heap.size w W) => cloned_any a cap ds W (h.later hb) hl)
  have hbx : Below w.heap.size w (w.alloc (.cells #[.int .i64 on] 3)) := (Below.refl _ _).alloc (Nat.le_refl _) _
  have hk0 := Bk.Blk.nw10 (W := w) (cs := #[.int .i64 on]) (t := 3)
  obtain ⟨r, hr⟩ : ∃ r, r = due ds on := ⟨_, rfl⟩
  rw [← hr]
  have HR := Lib.hid hr
  have HDL := Lib.hid (show r.length ≤ ds.length by rw [hr]; exact due_len ds on)
  clear h hr
  go_enter Try.func29, Try.ntmps29
  go_wp2_with fail
  refine (HC.out _ hbx).mono ?_
  rintro e w2 ⟨hb2, ⟨ha, hds, rfl⟩ | ⟨g, c, rfl, ho⟩⟩
  · have b2 := bl2 hb2 hbx
    go_wp2_with fail
    refine (ddel_nil _ _ _).mono ?_
    rintro e w3 ⟨rfl, hb3⟩
    go_wp2_with fail
    go_ret
    have hr0 : r = [] := by rw [HR.out, hds]; rfl
    exact ⟨none, 0, by rw [hr0]; rfl, by rw [hr0]; exact ⟨by simp, fun h => by simp at h⟩, bl2 hb3 b2⟩
  · have b2 := bl2 hb2 hbx
    have hk2 := hk0.later hb2
    have hcx : ds.length ≤ c := by
      obtain ⟨_, _, X, hX, _⟩ := ho
      omega
    have hs1 : (w.alloc (.cells #[.int .i64 on] 3)).heap.size = w.heap.size + 1 := by simp
    rw [hs1] at ho
    have HD := Lib.hid (ddel_any 48 #[.pointer (some ⟨w.heap.size, 0, none⟩)] (fun d => decide (on < d.day)) (w.heap.size + 1) g c ds w2 (enters_of Try.func48 (by kernel_rfl) rfl) (due1_any on w.heap.size (w.heap.size + 1) w2 (by omega) hk2.c0) ho hl hcx)
    rw [due_filter, ← HR.out] at HD
    clear hk2 hk0 ho hcx
    go_wp2_with fail
    refine (HD.out).mono ?_
    rintro e w3 ⟨rfl, hrow, hb3⟩
    go_wp2_with fail
    go_ret
    exact ⟨some ⟨g, 0, none⟩, c, rfl, dues_of_row (by have := HDL.out; omega) hrow, b2.trans (hb3.mono (by omega))⟩
end Go.Proofs.Ytaibocobeibobaa.Ln
