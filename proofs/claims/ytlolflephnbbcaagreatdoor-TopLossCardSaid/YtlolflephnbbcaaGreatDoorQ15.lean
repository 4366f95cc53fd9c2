/-
  Parts of the proof: Lc.
-/
import Derived.Test.YtlolflephnbbcaaGreatDoorQ10
import Derived.Lib.LazyBuf
import Derived.Laws.IdiomCopy
import Derived.Test.YtlolflephnbbcaaGreatDoorQ11
import Derived.Maps.AppendAt
import Derived.Deep.Cut
import Derived.Deep.RegionHeld3
import Derived.Laws.Rows
import Derived.Laws.Tables
namespace Go.Proofs.YtlolflephnbbcaaGreatDoor.Ln
open Go.RowKit
open Go.Proofs.YtlolflephnbbcaaGreatDoor

def tenc (t : Tm) : List Value := [.int .i64 (t).me, .int .i64 (t).pr, .int .i64 (t).ppm, .int .i64 (t).stt, .int .i64 (t).ev, .int .i64 (t).ct, .int .i64 (t).ba, .int .i64 (t).mo, .int .i64 (t).pen, .int .i64 (t).fe, .string (t).cal, .string (t).cur]
def cenc (c : Ch) : List Value := .int .i64 c.day :: .int .i64 c.amt :: tenc c.old
theorem cenc_len (d : Ch) : (cenc d).length = 14 := rfl
theorem cenc_one (d : Ch) : ∀ u ∈ cenc d, u.oneCell' = true := by
 intro u hu
 simp only [cenc, tenc, List.mem_cons, List.not_mem_nil, or_false] at hu
 rcases hu with rfl | rfl | rfl | rfl | rfl | rfl | rfl | rfl | rfl | rfl | rfl | rfl | rfl | rfl <;> rfl
theorem chg_info : (Tryz.prog.info? 50).map (fun i => (i.zero, i.size, i.bytes)) = some (some (.agg #[.int .i64 0, .int .i64 0, .int .i64 0, .int .i64 0, .int .i64 0, .int .i64 0, .int .i64 0, .int .i64 0, .int .i64 0, .int .i64 0, .int .i64 0, .int .i64 0, .string .empty, .string .empty]), 14, 128) := by kernel_rfl

set_option maxHeartbeats 2000000 in
theorem clonec_any (a : Option Addr) (cap : Nat) (cs : List Ch) (w : World) (h : RowIn cenc w a cs) (hl : cs.length ≤ 100000) :
  Calls Tryz.prog 18 #[.slice a cs.length cap] w fun e w' => Below w.heap.size w w' ∧
   ((a = none ∧ cs = [] ∧ e = .returned (.slice none 0 0)) ∨ ∃ g c, e = .returned (.slice (some ⟨g, 0, none⟩) cs.length c) ∧ OwnR cenc 14 50 w' w.heap.size g c cs) := by
 have HR := Lib.hid h
 cases a with
 | none =>
  have h0 : cs = [] := by
   rcases Nat.eq_zero_or_pos cs.length with h0 | h0
   ·exact List.length_eq_zero_iff.1 h0
   ·obtain ⟨b, off, ha, _⟩ := h h0; cases ha
  subst h0
  clear h hl
  have q24 : ∀ (w : World) (n c n' c' : Nat), (binOp .eql 30 (.slice none n c) (.slice none n' c')).run Tryz.prog w = .ok (.bool true) w := fun w n c n' c' => Lib.run_eql_slice_nil w _ _ none n c n' c' Tryz.underlying30
  go_enter Tryz.func18, Tryz.ntmps18
  go_wp2_with fail
  go_ret
  exact ⟨Below.refl _ _, .inl (by simp)⟩
 | some ad =>
  obtain ⟨i, hi, hzz⟩ := Option.map_eq_some_iff.1 chg_info
  simp only [Prod.mk.injEq] at hzz
  obtain ⟨hz, hsz, hby⟩ := hzz
  have HI := Lib.hid (And.intro hi (And.intro hz (And.intro hsz hby)))
  clear h hi hz hsz hby
  have q24 : ∀ (w : World) (n c n' c' : Nat), (binOp .eql 30 (.slice (some ad) n c) (.slice none n' c')).run Tryz.prog w = .ok (.bool false) w := fun w n c n' c' => Lib.run_eql_slice_nil w _ _ (some ad) n c n' c' Tryz.underlying30
  go_enter Tryz.func18, Tryz.ntmps18
  go_wp2_with (at_builtin; refine wpList_append_own _ rfl _ _ 30 rfl w.heap.size 50 i (.agg #[.int .i64 0, .int .i64 0, .int .i64 0, .int .i64 0, .int .i64 0, .int .i64 0, .int .i64 0, .int .i64 0, .int .i64 0, .int .i64 0, .int .i64 0, .int .i64 0, .string .empty, .string .empty]) 14 128 Tryz.underlying30 HI.out.1 HI.out.2.1 HI.out.2.2.1 HI.out.2.2.2 rfl (by decide) _ _ _ rfl (World.ownsRow_made w #[] 0 (Nat.le_refl _) (Nat.zero_le _) (by simp)) ad cs.length cap (flat cenc cs) rfl ?qc1 ?qc2 ?qc3 ?qc4 ?qc5 ?qc6 ?_)
  case qc1 => exact flat_len cenc_len cs
  case qc2 =>
   intro j u hj
   have h0 : 0 < cs.length := by
    rcases Nat.eq_zero_or_pos cs.length with h0 | h0
    ·rw [List.length_eq_zero_iff.1 h0] at hj; simp [flat] at hj
    ·exact h0
   obtain ⟨b, off, ha, hc⟩ := HR.out h0
   obtain rfl := Option.some.inj ha
   rw [show (⟨b, off, none⟩ : Addr).add j = ⟨b, off + j, none⟩ from Go.WideShapes.add_plain ..]
   exact Lib.cell?_alloc_some _ (hc j u hj)
  case qc3 => exact flat_mem cenc_one cs
  case qc4 => rw [Nat.zero_add]; unfold maxLen; omega
  case qc5 => rw [Nat.zero_add]; omega
  case qc6 => simp
  intro v' w1 hown hgrow hnl
  have hnn : v' ≠ .slice none 0 0 := hnl
  obtain ⟨g, c, rfl, ho⟩ := OwnR.of hown hnn
  go_wp2_with fail
  go_ret
  exact ⟨((Below.refl _ w).alloc (Nat.le_refl _) _).grown hgrow (by simp) (by intro k hk; simp [Value.ownBlock] at hk; omega), .inr ⟨g, c, rfl, ho⟩⟩
end Go.Proofs.YtlolflephnbbcaaGreatDoor.Ln

namespace Go.Proofs.YtlolflephnbbcaaGreatDoor.Ln
open Go.RowKit
open Go.Proofs.YtlolflephnbbcaaGreatDoor

structure DelInv {α : Type} [Inhabited α] (p : α → Bool) (xs ys : List α) (i j : Nat) : Prop where
 len : ys.length = xs.length
 lt : i < j
 le : j ≤ xs.length
 done : ys.take i = (xs.take j).filter fun x => !p x
 rest : ∀ m, j ≤ m → m < xs.length → ys[m]! = xs[m]!
theorem filter_none {α : Type} {p : α → Bool} {l : List α} (h : ∀ x ∈ l, p x = false) : (l.filter fun x => !p x) = l := by
 rw [List.filter_eq_self]; intro x hx; simp [h x hx]
section
variable {α : Type} [Inhabited α] {p : α → Bool} {xs ys : List α} {i j : Nat}
theorem take_succ' {l : List α} {k : Nat} (h : k < l.length) : l.take (k + 1) = l.take k ++ [l[k]!] := by
 rw [List.take_add_one, List.getElem?_eq_getElem h, getElem!_pos l k h]; rfl
theorem DelInv.start {k : Nat} (hk : k < xs.length) (ht : p xs[k]! = true) (hall : ∀ j, j < k → p xs[j]! = false) : DelInv p xs xs k (k + 1) := by
 refine ⟨rfl, by omega, hk, ?_, fun _ _ _ => rfl⟩
 rw [take_succ' hk, List.filter_append, filter_none (p := p) (l := xs.take k)]
 ·generalize xs[k]! = y at *
  simp [ht]
 ·intro x hx
  obtain ⟨m, hm, rfl⟩ := List.mem_iff_getElem.1 hx
  have hm' : m < k := by simp at hm; omega
  have := hall m hm'
  rw [getElem!_pos xs m (by omega)] at this
  simpa using this
theorem DelInv.keep (h : DelInv p xs ys i j) (hj : j < xs.length) (hp : p xs[j]! = false) : DelInv p xs (ys.set i xs[j]!) (i + 1) (j + 1) := by
 have hl := h.len
 have hlt := h.lt
 refine ⟨by simpa using hl, by omega, hj, ?_, fun m hm hm' => ?_⟩
 ·rw [take_succ' hj, List.filter_append, ← h.done, take_succ' (by simp; omega), List.take_set_of_le (Nat.le_refl i)]
  have hg : (ys.set i xs[j]!)[i]! = xs[j]! := by rw [getElem!_pos _ i (by simp; omega)]; simp
  rw [hg]
  generalize xs[j]! = y at *
  simp [hp]
 ·have := h.rest m (by omega) hm'
  rw [← this]
  simp [List.getElem!_eq_getElem?_getD, List.getElem?_set_ne (show i ≠ m by omega)]
theorem DelInv.skip (h : DelInv p xs ys i j) (hj : j < xs.length) (hp : p xs[j]! = true) : DelInv p xs ys i (j + 1) := by
 refine ⟨h.len, by have := h.lt; omega, hj, ?_, fun m hm hm' => h.rest m (by omega) hm'⟩
 rw [take_succ' hj, List.filter_append, ← h.done]
 generalize xs[j]! = y at *
 simp [hp]
theorem DelInv.fin (h : DelInv p xs ys i xs.length) : ys.take i = (xs.filter fun x => !p x) ∧ (xs.filter fun x => !p x).length = i := by
 have hd := h.done
 rw [List.take_length] at hd
 refine ⟨hd, ?_⟩
 rw [← hd, List.length_take, h.len]
 have := h.lt; omega
end
theorem run_clear_k {P : Program} (w : World) (t e ty : TypeId) (z : Value) (ht : P.underlying t = some (.slice e)) (hv : ∀ w, (zeroValue e).run P w = .ok z w) (hz : 0 < z.cells.size) (h1 : ∀ u ∈ z.cells.toList, u.oneCell' = true) (b o n c : Nat) (hn : 0 < n)
  (hc : ∀ j, j < n * z.cells.size → (w.cell? ⟨b, o + j, none⟩).isSome = true) (hf : ∀ j, j < n * z.cells.size → w.frozen? ⟨b, o + j, none⟩ = false) :
  (Builtin.clear_ #[t] ty #[.slice (some ⟨b, o, none⟩) n c]).run P w = .ok (.tuple #[]) (w.setCells b o (Builtin.zeroCells z.cells n).toList) := by
 have hlen : (Builtin.zeroCells z.cells n).toList.length = n * z.cells.size := by simp [Builtin.zeroCells]
 have hst := run_storeCells_cells (P := P) b o (Builtin.zeroCells z.cells n).toList 0 w (by rw [hlen]; simpa using hc) (by rw [hlen]; simpa using hf) (by
  intro v hv'
  simp only [Builtin.zeroCells, Array.toList_map, List.mem_map] at hv'
  obtain ⟨i, _, rfl⟩ := hv'
  have hi : i % z.cells.size < z.cells.size := Nat.mod_lt _ hz
  rw [getElem!_pos z.cells _ hi]
  exact h1 _ (by simp))
 simp only [Nat.add_zero] at hst
 obtain ⟨m, rfl⟩ : ∃ m, n = m + 1 := ⟨n - 1, by omega⟩
 simp [Builtin.clear_, run_underlying ht, hv, hst]
theorem flat_take {α : Type} {enc : α → List Value} {k : Nat} (hk : ∀ x, (enc x).length = k) : ∀ (xs : List α) (i m : Nat), m < i * k → i ≤ xs.length → (flat enc (xs.take i))[m]? = (flat enc xs)[m]?
 | [], i, m, h, hi => by simp at hi; subst hi; simp at h
 | x :: xs, 0, m, h, _ => by simp at h
 | x :: xs, i + 1, m, h, hi => by
  unfold flat
  rw [List.take_succ_cons, List.flatMap_cons, List.flatMap_cons]
  rcases Nat.lt_or_ge m k with hm | hm
  ·rw [List.getElem?_append_left (by rw [hk]; exact hm), List.getElem?_append_left (by rw [hk]; exact hm)]
  ·rw [List.getElem?_append_right (by rw [hk]; exact hm), List.getElem?_append_right (by rw [hk]; exact hm), hk]
   exact flat_take hk xs i (m - k) (by rw [Nat.add_mul] at h; omega) (by simpa using hi)

theorem dflat_set (v : Du) (X : List Value) : ∀ (ys : List Du) (i : Nat), i < ys.length → (((((flat denc ys ++ X).toArray.setIfInBounds (i * 4) (.int .i64 v.no)).setIfInBounds (i * 4 + 1) (.int .i64 v.day)).setIfInBounds (i * 4 + 2) (.int .i64 v.pr)).setIfInBounds (i * 4 + 3) (.int .i64 v.it)) = (flat denc (ys.set i v) ++ X).toArray := by
 intro ys i h
 simp only [List.setIfInBounds_toArray]
 congr 1
 induction ys generalizing i with
 | nil => simp at h
 | cons y ys ih =>
  cases i with
  | zero => simp [flat, denc]
  | succ i =>
   have := ih i (by simpa using h)
   simp only [flat, List.flatMap_cons, denc, List.set_cons_succ, List.cons_append, List.nil_append] at this ⊢
   rw [show (i + 1) * 4 = i * 4 + 4 by omega]
   simp only [show ∀ a b : Nat, a + 4 + b = a + b + 4 from fun a b => by omega, List.set_cons_succ]
   simpa using this
theorem dblk_cells {W : World} {g : Nat} {ys : List Du} {X : List Value} {bt : TypeId} (h : Bk.Blk W g ((flat denc ys ++ X).toArray) bt) {j : Nat} (hj : j < ys.length) :
  W.cell? ⟨g, j * 4, none⟩ = some (.int .i64 ys[j]!.no) ∧ W.cell? ⟨g, j * 4 + 1, none⟩ = some (.int .i64 ys[j]!.day) ∧ W.cell? ⟨g, j * 4 + 2, none⟩ = some (.int .i64 ys[j]!.pr) ∧ W.cell? ⟨g, j * 4 + 3, none⟩ = some (.int .i64 ys[j]!.it) := by
 have c : ∀ i, i < 4 → W.cell? ⟨g, j * 4 + i, none⟩ = (denc ys[j]!)[i]? := fun i hi => by
  rw [h.cell]
  have hg := flat_get denc_len ys j i hj hi
  have hl := flat_len denc_len ys
  rw [← hg]
  simp [List.getElem?_append_left (show j * 4 + i < (flat denc ys).length by rw [hl]; omega)]
 exact ⟨by simpa [denc] using c 0 (by omega), by simpa [denc] using c 1 (by omega), by simpa [denc] using c 2 (by omega), by simpa [denc] using c 3 (by omega)⟩
def dDR (bt : TypeId) (w : World) (B g : Nat) (X : List Value) (p : Du → Bool) (xs : List Du) (gg : Nat) (s5 s6 : Value) (W : World) : Prop := ∃ (i j : Nat) (ys : List Du), j + gg = xs.length ∧ s5 = .int .i64 i ∧ s6 = .int .i64 j ∧ DelInv p xs ys i j ∧ Bk.Blk W g ((flat denc ys ++ X).toArray) bt ∧ Below B w W
def dPred (g0 : Nat) (lb : Array Value) (p : Du → Bool) (B : Nat) (w : World) : Prop := ∀ (d : Du) (W : World), Below B w W → Calls Tryz.prog g0 (#[.agg #[.int .i64 d.no, .int .i64 d.day, .int .i64 d.pr, .int .i64 d.it]] ++ lb) W fun e w' => e = .returned (.bool (p d)) ∧ Below W.heap.size W w'

set_option maxHeartbeats 4000000 in
theorem ddel_any (g0 : Nat) (lb : Array Value) (p : Du → Bool) (B g c : Nat) (xs : List Du) (w : World) (eg : ∀ args w, (callFunc g0 args).run Tryz.prog w = .ok (.enter g0 args) w) (hp : dPred g0 lb p B w) {bt : TypeId} (ho : OwnR denc 4 bt w B g c xs) (hn : xs.length ≤ 100000) (hcx : xs.length ≤ c) :
  Calls Tryz.prog 109 #[.slice (some ⟨g, 0, none⟩) xs.length c, .func (.func g0) #[] lb] w fun e w' => e = .returned (.slice (some ⟨g, 0, none⟩) (xs.filter fun x => !p x).length c) ∧ RowIn denc w' (some ⟨g, 0, none⟩) (xs.filter fun x => !p x) ∧ Below B w w' := by
 have hrow := ho.row
 obtain ⟨hB, hcm, X, hX, hk⟩ := ho
 have HI := Lib.hid (ixd_any g0 lb p (some ⟨g, 0, none⟩) c xs w (dues_of_row (by omega) hrow) eg (fun d W h => hp d W (h.mono (Nat.le_trans hB (Nat.le_of_lt hk.lt)))))
 have HP := Lib.hid hp
 have hgs := hk.lt
 obtain ⟨fl, hfl⟩ : ∃ fl, fl = (xs.filter fun x => !p x) := ⟨_, rfl⟩
 rw [← hfl]
 have HFL := Lib.hid hfl
 have HK := Lib.hid hk
 have HROW := Lib.hid hrow
 clear hfl hk hp hrow
 go_enter Tryz.func109, Tryz.ntmps109
 go_wp2_with fail
 refine (HI.out).mono ?_
 rintro e w1 ⟨r, rfl, hr, hb1⟩
 rcases hr with ⟨rfl, hall⟩ | ⟨k0, hk0, rfl, ht, hall⟩
 ·have HE := Lib.hid (show fl = xs by
   rw [HFL.out]
   exact filter_none fun x hx => by
    obtain ⟨m, hm, rfl⟩ := List.mem_iff_getElem.1 hx
    have := hall m hm
    rwa [getElem!_pos xs m hm] at this)
  clear hall
  go_wp2_with fail
  go_ret
  exact ⟨by rw [HE.out]; rfl, by rw [HE.out]; exact HROW.out.later hb1, hb1.mono (Nat.le_trans hB (Nat.le_of_lt hgs))⟩
 ·have hne1 : ((k0 : Int) == -1) = false := beq_eq_false_iff_ne.2 (by omega)
  have HST := Lib.hid (DelInv.start hk0 ht hall)
  have hkb := HK.out.later hb1
  have hbw := hb1.mono (Nat.le_trans hB (Nat.le_of_lt hgs))
  clear hall ht hb1
  go_wp2_with fail
  go_loopg [5, 6] (xs.length - (k0 + 1)) (dDR bt w B g X p xs)
  case atStart => exact ⟨k0, k0 + 1, xs, by omega, rfl, by go_num, HST.out, hkb, hbw⟩
  case round =>
   clear hkb hbw
   obtain ⟨i, j, ys, hj, rfl, rfl, inv, hkb, hbr⟩ := hrel
   have hyl := inv.len
   have hij := inv.lt
   have hjx := inv.le
   have hzr := hbr.size
   have hgr := hkb.lt
   by_cases hlt : j < xs.length
   ·have hcl := dblk_cells hkb (show j < ys.length by omega)
    rw [inv.rest j (Nat.le_refl j) hlt] at hcl
    have HINV := Lib.hid inv
    generalize hv : xs[j]! = v at *
    have HV := Lib.hid hv
    obtain ⟨c0, c1, c2, c3⟩ := hcl
    clear inv hv
    have hcall := HP.out v (wr.alloc (.cells #[.int .i64 v.no, .int .i64 v.day, .int .i64 v.pr, .int .i64 v.it] 47)) (hbr.alloc (by omega) _)
    go_wp2_with fail
    refine hcall.mono ?_
    rintro e w2 ⟨rfl, hb2⟩
    have hvb := Bk.Blk.later (g := wr.heap.size) hb2 (Bk.Blk.nw10 (W := wr) (cs := #[.int .i64 v.no, .int .i64 v.day, .int .i64 v.pr, .int .i64 v.it]) (t := 47))
    have hkb2 := (hkb.alloc (o := .cells #[.int .i64 v.no, .int .i64 v.day, .int .i64 v.pr, .int .i64 v.it] 47)).later hb2
    have hbr2 : Below B w w2 := (hbr.alloc (show B ≤ wr.heap.size by omega) _).trans (hb2.mono (by simp; omega))
    clear hkb hbr hb2 hcall c0 c1 c2 c3
    cases hq : p v
    ·have HQ := Lib.hid hq
     clear hq
     have e0 := hvb.c0
     have e1 := hvb.c1
     have e2 := hvb.c2
     have e3 := hvb.c3
     have f0 := hkb2.free (i * 4)
     have f1 := hkb2.free (i * 4 + 1)
     have f2 := hkb2.free (i * 4 + 2)
     have f3 := hkb2.free (i * 4 + 3)
     have hix : i < xs.length := by omega
     obtain ⟨d0, d1, d2, d3⟩ := dblk_cells hkb2 (show i < ys.length by omega)
     generalize ys[i]! = u at *
     go_wp2_with fail
     go_roundg (gk - 1)
     case measure => omega
     case rel =>
      refine ⟨i + 1, j + 1, ys.set i v, by omega, by go_num, by go_num, ?_, ?_, ?_⟩
      ·have := HINV.out.keep hlt (by rw [HV.out]; exact HQ.out)
       rwa [HV.out] at this
      ·rw [← dflat_set v X ys i (by omega)]
       exact (Bk.Blk.set_same (Bk.Blk.set_same (Bk.Blk.set_same (Bk.Blk.set_same hkb2))))
      ·exact (Below.setCell (Below.setCell (Below.setCell (Below.setCell hbr2 hB _) hB _) hB _) hB _)
    ·have HQ := Lib.hid hq
     clear hq
     go_wp2_with fail
     go_roundg (gk - 1)
     case measure => omega
     case rel => exact ⟨i, j + 1, ys, by omega, rfl, by go_num, HINV.out.skip hlt (by rw [HV.out]; exact HQ.out), hkb2, hbr2⟩
   ·have hjn : j = xs.length := by omega
    rw [hjn] at inv
    obtain ⟨hf1, hf2⟩ := inv.fin
    have HF1 := Lib.hid hf1
    have HF2 := Lib.hid hf2
    clear hf1 hf2 inv
    have hix : i < xs.length := by omega
    have hic : i < c := by omega
    have hl := flat_len denc_len ys
    have hcl : ∀ ty, (Builtin.clear_ #[29] ty #[.slice (some ⟨g, i * 4, none⟩) (xs.length - i) (c - i)]).run Tryz.prog wr = .ok (.tuple #[]) (wr.setCells g (i * 4) (Builtin.zeroCells #[.int .i64 0, .int .i64 0, .int .i64 0, .int .i64 0] (xs.length - i)).toList) := fun ty =>
     run_clear_k wr _ _ ty (.agg #[.int .i64 0, .int .i64 0, .int .i64 0, .int .i64 0]) Tryz.underlying29 Tryz.zeroValue47 (by decide) (by intro u hu; simp [Value.cells] at hu; subst hu; rfl) g (i * 4) (xs.length - i) (c - i) (by omega)
      (fun m hm => by
       rw [hkb.cell]
       simp [Value.cells] at hm
       simp [show i * 4 + m < (flat denc ys).length + X.length by rw [hl]; omega])
      (fun m _ => hkb.free _)
    have HKB := Lib.hid hkb
    clear hkb
    go_wp2_with fail
    go_ret
    refine ⟨by rw [HFL.out, HF2.out]; rfl, ?_, Go.below_setCells hB _ _ _ hbr⟩
    rw [HFL.out, ← HF1.out]
    intro _
    refine ⟨g, 0, rfl, fun m u hm => ?_⟩
    have hm2 : m < i * 4 := by
     have := (List.getElem?_eq_some_iff.1 hm).1
     rw [flat_len denc_len, List.length_take] at this
     have : min i ys.length * 4 ≤ i * 4 := Nat.mul_le_mul_right _ (Nat.min_le_left ..)
     omega
    rw [flat_take denc_len ys i m hm2 (by omega)] at hm
    rw [Nat.zero_add, World.cell?_setCells_out g _ _ _ _ (fun _ _ => .inl hm2), HKB.out.cell]
    have := (List.getElem?_eq_some_iff.1 hm).1
    simp [List.getElem?_append_left this, hm]

theorem dix_nil (g0 : Nat) (lb : Array Value) (w : World) :
  Calls Tryz.prog 153 #[.slice none 0 0, .func (.func g0) #[] lb] w fun e w' => e = .returned (.int .i64 (-1)) ∧ Below w.heap.size w w' := by
 go_enter Tryz.func153, Tryz.ntmps153
 go_wp2_with fail
 go_loopg [8] 0 (fun _ s8 W => s8 = .int .i64 0 ∧ W = w)
 case atStart => exact ⟨rfl, rfl⟩
 case round =>
  obtain ⟨rfl, rfl⟩ := hrel
  go_wp2_with fail
  go_ret
  exact ⟨rfl, Below.refl _ _⟩
theorem ddel_nil (g0 : Nat) (lb : Array Value) (w : World) :
  Calls Tryz.prog 109 #[.slice none 0 0, .func (.func g0) #[] lb] w fun e w' => e = .returned (.slice none 0 0) ∧ Below w.heap.size w w' := by
 have HI := Lib.hid (dix_nil g0 lb w)
 go_enter Tryz.func109, Tryz.ntmps109
 go_wp2_with fail
 refine (HI.out).mono ?_
 rintro e w1 ⟨rfl, hb1⟩
 go_wp2_with fail
 go_ret
 exact ⟨rfl, hb1⟩
theorem due1_any (on : Int) (b B : Nat) (w : World) (hb : b < B) (hc : w.cell? ⟨b, 0, none⟩ = some (.int .i64 on)) : dPred 110 #[.pointer (some ⟨b, 0, none⟩)] (fun d => decide (on < d.day)) B w := by
 intro d W hW
 have hc' : W.cell? ⟨b, 0, none⟩ = some (.int .i64 on) := (hW.cell (p := ⟨b, 0, none⟩) hb).trans hc
 have hlt := World.block_lt_of_cell? _ _ hc'
 have hne : b ≠ W.heap.size := by
  have : b < W.heap.size := hlt
  omega
 show Calls Tryz.prog 110 #[.agg #[.int .i64 d.no, .int .i64 d.day, .int .i64 d.pr, .int .i64 d.it], .pointer (some ⟨b, 0, none⟩)] W _
 go_enter Tryz.func110, Tryz.ntmps110
 go_wp2_with fail
 go_ret
 exact ⟨by simp, (Below.refl _ _).alloc (Nat.le_refl _) _⟩
theorem due_filter (ds : List Du) (on : Int) : (ds.filter fun d => !decide (on < d.day)) = due ds on := by
 unfold due
 apply List.filter_congr
 intro d _
 by_cases h : on < d.day
 ·rw [decide_eq_true h, decide_eq_false (by omega)]; rfl
 ·rw [decide_eq_false h, decide_eq_true (by omega)]; rfl
theorem due_len (ds : List Du) (on : Int) : (due ds on).length ≤ ds.length := List.length_filter_le ..
set_option maxHeartbeats 2000000 in
theorem due_any (a : Option Addr) (cap : Nat) (ds : List Du) (on : Int) (w : World) (h : DuesIn w a ds) (hl : ds.length ≤ 100000) :
  Calls Tryz.prog 68 #[.slice a ds.length cap, .int .i64 on] w fun e w' => ∃ a' c', e = .returned (.slice a' (due ds on).length c') ∧ DuesIn w' a' (due ds on) ∧ Below w.heap.size w w' := by
 have HC := Lib.hid (fun (W : World) (hb : Below w.heap.size w W) => cloned_any a cap ds W (h.later hb) hl)
 have hbx : Below w.heap.size w (w.alloc (.cells #[.int .i64 on] 3)) := (Below.refl _ _).alloc (Nat.le_refl _) _
 have hk0 := Bk.Blk.nw10 (W := w) (cs := #[.int .i64 on]) (t := 3)
 obtain ⟨r, hr⟩ : ∃ r, r = due ds on := ⟨_, rfl⟩
 rw [← hr]
 have HR := Lib.hid hr
 have HDL := Lib.hid (show r.length ≤ ds.length by rw [hr]; exact due_len ds on)
 clear h hr
 go_enter Tryz.func68, Tryz.ntmps68
 go_wp2_with fail
 refine (HC.out _ hbx).mono ?_
 rintro e w2 ⟨hb2, ⟨ha, hds, rfl⟩ | ⟨g, c, rfl, ho⟩⟩
 ·have b2 := bl2 hb2 hbx
  go_wp2_with fail
  refine (ddel_nil _ _ _).mono ?_
  rintro e w3 ⟨rfl, hb3⟩
  go_wp2_with fail
  go_ret
  have hr0 : r = [] := by rw [HR.out, hds]; rfl
  exact ⟨none, 0, by rw [hr0]; rfl, by rw [hr0]; exact ⟨by simp, fun h => by simp at h⟩, bl2 hb3 b2⟩
 ·have b2 := bl2 hb2 hbx
  have hk2 := hk0.later hb2
  have hcx : ds.length ≤ c := by
   obtain ⟨_, _, X, hX, _⟩ := ho
   omega
  have hs1 : (w.alloc (.cells #[.int .i64 on] 3)).heap.size = w.heap.size + 1 := by simp
  rw [hs1] at ho
  have HD := Lib.hid (ddel_any 110 #[.pointer (some ⟨w.heap.size, 0, none⟩)] (fun d => decide (on < d.day)) (w.heap.size + 1) g c ds w2 (enters_of Tryz.func110 (by kernel_rfl) rfl) (due1_any on w.heap.size (w.heap.size + 1) w2 (by omega) hk2.c0) ho hl hcx)
  rw [due_filter, ← HR.out] at HD
  clear hk2 hk0 ho hcx
  go_wp2_with fail
  refine (HD.out).mono ?_
  rintro e w3 ⟨rfl, hrow, hb3⟩
  go_wp2_with fail
  go_ret
  exact ⟨some ⟨g, 0, none⟩, c, rfl, dues_of_row (by have := HDL.out; omega) hrow, b2.trans (hb3.mono (by omega))⟩
end Go.Proofs.YtlolflephnbbcaaGreatDoor.Ln

namespace Go.Proofs.YtlolflephnbbcaaGreatDoor.Ln
open Go.RowKit
open Go.Proofs.YtlolflephnbbcaaGreatDoor

structure Pa where
 (kd am : Int)
instance : Inhabited Pa := ⟨⟨0, 0⟩⟩
def penc (p : Pa) : List Value := [.int .i64 p.kd, .int .i64 p.am]
theorem penc_len (p : Pa) : (penc p).length = 2 := rfl
theorem penc_one (p : Pa) : ∀ u ∈ penc p, u.oneCell' = true := by
 intro u hu
 simp only [penc, List.mem_cons, List.not_mem_nil, or_false] at hu
 rcases hu with rfl | rfl <;> rfl
def pparts (l : List Pa) : List Pa := l.filter fun p => decide (0 < p.am)
def powed (l : Lo) (day : Int) : List Pa := pparts [⟨1, l.fee⟩, ⟨2, l.pen⟩, ⟨3, oI l day⟩, ⟨4, oP l day⟩]
def Dist.pps (x : Dist) : List Pa := pparts [⟨1, x.a⟩, ⟨2, x.b⟩, ⟨3, x.c⟩, ⟨4, x.d⟩, ⟨5, x.r⟩]
theorem RowIn.parts {W : World} {a : Option Addr} {xs : List Pa} (h : RowIn penc W a xs) (h0 : 0 < xs.length) : ∃ b off, a = some ⟨b, off, none⟩ ∧ ∀ j, j < xs.length → W.cell? ⟨b, off + j * 2, none⟩ = some (.int .i64 xs[j]!.kd) ∧ W.cell? ⟨b, off + j * 2 + 1, none⟩ = some (.int .i64 xs[j]!.am) := by
 obtain ⟨b, off, ha, hc⟩ := h h0
 refine ⟨b, off, ha, fun j hj => ?_⟩
 have c : ∀ i, i < 2 → W.cell? ⟨b, off + (j * 2 + i), none⟩ = (penc xs[j]!)[i]? := fun i hi => by
  have hg := flat_get penc_len xs j i hj hi
  have : i < (penc xs[j]!).length := hi
  rw [List.getElem?_eq_getElem this] at hg ⊢
  exact hc _ _ hg
 have c0 := c 0 (by omega)
 have c1 := c 1 (by omega)
 simp only [penc, ← Nat.add_assoc] at c0 c1
 exact ⟨by simpa using c0, by simpa using c1⟩

theorem pflat_set (v : Pa) (X : List Value) : ∀ (ys : List Pa) (i : Nat), i < ys.length → (((flat penc ys ++ X).toArray.setIfInBounds (i * 2) (.int .i64 v.kd)).setIfInBounds (i * 2 + 1) (.int .i64 v.am)) = (flat penc (ys.set i v) ++ X).toArray := by
 intro ys i h
 simp only [List.setIfInBounds_toArray]
 congr 1
 induction ys generalizing i with
 | nil => simp at h
 | cons y ys ih =>
  cases i with
  | zero => simp [flat, penc]
  | succ i =>
   have := ih i (by simpa using h)
   simp only [flat, List.flatMap_cons, penc, List.set_cons_succ, List.cons_append, List.nil_append] at this ⊢
   rw [show (i + 1) * 2 = i * 2 + 2 by omega]
   simp only [show ∀ a b : Nat, a + 2 + b = a + b + 2 from fun a b => by omega, List.set_cons_succ]
   simpa using this
theorem pblk_cells {W : World} {g : Nat} {ys : List Pa} {X : List Value} {bt : TypeId} (h : Bk.Blk W g ((flat penc ys ++ X).toArray) bt) {j : Nat} (hj : j < ys.length) :
  W.cell? ⟨g, j * 2, none⟩ = some (.int .i64 ys[j]!.kd) ∧ W.cell? ⟨g, j * 2 + 1, none⟩ = some (.int .i64 ys[j]!.am) := by
 have c : ∀ i, i < 2 → W.cell? ⟨g, j * 2 + i, none⟩ = (penc ys[j]!)[i]? := fun i hi => by
  rw [h.cell]
  have hg := flat_get penc_len ys j i hj hi
  have hl := flat_len penc_len ys
  rw [← hg]
  simp [List.getElem?_append_left (show j * 2 + i < (flat penc ys).length by rw [hl]; omega)]
 exact ⟨by simpa [penc] using c 0 (by omega), by simpa [penc] using c 1 (by omega)⟩
def pDR (bt : TypeId) (w : World) (B g : Nat) (X : List Value) (p : Pa → Bool) (xs : List Pa) (gg : Nat) (s5 s6 : Value) (W : World) : Prop := ∃ (i j : Nat) (ys : List Pa), j + gg = xs.length ∧ s5 = .int .i64 i ∧ s6 = .int .i64 j ∧ DelInv p xs ys i j ∧ Bk.Blk W g ((flat penc ys ++ X).toArray) bt ∧ Below B w W
def pPred (g0 : Nat) (lb : Array Value) (p : Pa → Bool) (B : Nat) (w : World) : Prop := ∀ (d : Pa) (W : World), Below B w W → Calls Tryz.prog g0 (#[.agg #[.int .i64 d.kd, .int .i64 d.am]] ++ lb) W fun e w' => e = .returned (.bool (p d)) ∧ Below W.heap.size W w'

def pXR (w : World) (p : Pa → Bool) (xs : List Pa) (g : Nat) (s8 : Value) (W : World) : Prop := ∃ k : Nat, k + g = xs.length ∧ s8 = .int .i64 k ∧ (∀ j, j < k → p xs[j]! = false) ∧ Below w.heap.size w W
set_option maxHeartbeats 2000000 in
theorem ixq_any (g : Nat) (lb : Array Value) (p : Pa → Bool) (a : Option Addr) (cap : Nat) (xs : List Pa) (w : World) (h : RowIn penc w a xs) (hn : xs.length ≤ 100000) (eg : ∀ args w, (callFunc g args).run Tryz.prog w = .ok (.enter g args) w)
  (hp : ∀ (d : Pa) (W : World), Below w.heap.size w W → Calls Tryz.prog g (#[.agg #[.int .i64 d.kd, .int .i64 d.am]] ++ lb) W fun e w' => e = .returned (.bool (p d)) ∧ Below W.heap.size W w') :
  Calls Tryz.prog 103 #[.slice a xs.length cap, .func (.func g) #[] lb] w fun e w' => ∃ r, e = .returned (.int .i64 r) ∧ Idx p xs r ∧ Below w.heap.size w w' := by
 have H := Lib.hid h
 have HP := Lib.hid hp
 clear h hp
 go_enter Tryz.func103, Tryz.ntmps103
 go_wp2_with fail
 go_loopg [8] xs.length (pXR w p xs)
 case atStart => exact ⟨0, by omega, rfl, fun j hj => by omega, Below.refl _ _⟩
 case round =>
  obtain ⟨k, hk, rfl, hall, hbr⟩ := hrel
  have HA := Lib.hid hall
  clear hall
  by_cases hlt : k < xs.length
  ·obtain ⟨b, off, rfl, hc⟩ := H.out.parts (by omega)
   obtain ⟨c0, c1⟩ := hc k hlt
   replace c0 := cell_later hbr c0
   replace c1 := cell_later hbr c1
   have hcall := HP.out xs[k]! wr hbr
   generalize hd : xs[k]! = d at *
   have HD := Lib.hid hd
   clear hc hd
   cases hv : p d
   ·rw [hv] at hcall
    have HV := Lib.hid hv
    clear hv
    go_wp2_with fail
    refine hcall.mono ?_
    rintro e w1 ⟨rfl, hb⟩
    go_wp2_with fail
    go_roundg (gk - 1)
    case measure => omega
    case rel => exact ⟨k + 1, by omega, by go_num, fun j hj => by
     by_cases e : j = k
     ·subst e; rw [HD.out]; exact HV.out
     ·exact HA.out j (by omega), bl2 hb hbr⟩
   ·rw [hv] at hcall
    have HV := Lib.hid hv
    clear hv
    go_wp2_with fail
    refine hcall.mono ?_
    rintro e w1 ⟨rfl, hb⟩
    go_wp2_with fail
    go_ret
    exact ⟨k, rfl, .inr ⟨k, hlt, rfl, by rw [HD.out]; exact HV.out, HA.out⟩, bl2 hb hbr⟩
  ·go_wp2_with fail
   go_ret
   exact ⟨-1, rfl, .inl ⟨rfl, fun j hj => HA.out j (by omega)⟩, hbr⟩

set_option maxHeartbeats 4000000 in
theorem pdel_any (g0 : Nat) (lb : Array Value) (p : Pa → Bool) (B g c : Nat) (xs : List Pa) (w : World) (eg : ∀ args w, (callFunc g0 args).run Tryz.prog w = .ok (.enter g0 args) w) (hp : pPred g0 lb p B w) {bt : TypeId} (ho : OwnR penc 2 bt w B g c xs) (hn : xs.length ≤ 100000) (hcx : xs.length ≤ c) :
  Calls Tryz.prog 69 #[.slice (some ⟨g, 0, none⟩) xs.length c, .func (.func g0) #[] lb] w fun e w' => e = .returned (.slice (some ⟨g, 0, none⟩) (xs.filter fun x => !p x).length c) ∧ RowIn penc w' (some ⟨g, 0, none⟩) (xs.filter fun x => !p x) ∧ Below B w w' := by
 have hrow := ho.row
 obtain ⟨hB, hcm, X, hX, hk⟩ := ho
 have HI := Lib.hid (ixq_any g0 lb p (some ⟨g, 0, none⟩) c xs w hrow (by omega) eg (fun d W h => hp d W (h.mono (Nat.le_trans hB (Nat.le_of_lt hk.lt)))))
 have HP := Lib.hid hp
 have hgs := hk.lt
 obtain ⟨fl, hfl⟩ : ∃ fl, fl = (xs.filter fun x => !p x) := ⟨_, rfl⟩
 rw [← hfl]
 have HFL := Lib.hid hfl
 have HK := Lib.hid hk
 have HROW := Lib.hid hrow
 clear hfl hk hp hrow
 go_enter Tryz.func69, Tryz.ntmps69
 go_wp2_with fail
 refine (HI.out).mono ?_
 rintro e w1 ⟨r, rfl, hr, hb1⟩
 rcases hr with ⟨rfl, hall⟩ | ⟨k0, hk0, rfl, ht, hall⟩
 ·have HE := Lib.hid (show fl = xs by
   rw [HFL.out]
   exact filter_none fun x hx => by
    obtain ⟨m, hm, rfl⟩ := List.mem_iff_getElem.1 hx
    have := hall m hm
    rwa [getElem!_pos xs m hm] at this)
  clear hall
  go_wp2_with fail
  go_ret
  exact ⟨by rw [HE.out]; rfl, by rw [HE.out]; exact HROW.out.later hb1, hb1.mono (Nat.le_trans hB (Nat.le_of_lt hgs))⟩
 ·have hne1 : ((k0 : Int) == -1) = false := beq_eq_false_iff_ne.2 (by omega)
  have HST := Lib.hid (DelInv.start hk0 ht hall)
  have hkb := HK.out.later hb1
  have hbw := hb1.mono (Nat.le_trans hB (Nat.le_of_lt hgs))
  clear hall ht hb1
  go_wp2_with fail
  go_loopg [5, 6] (xs.length - (k0 + 1)) (pDR bt w B g X p xs)
  case atStart => exact ⟨k0, k0 + 1, xs, by omega, rfl, by go_num, HST.out, hkb, hbw⟩
  case round =>
   clear hkb hbw
   obtain ⟨i, j, ys, hj, rfl, rfl, inv, hkb, hbr⟩ := hrel
   have hyl := inv.len
   have hij := inv.lt
   have hjx := inv.le
   have hzr := hbr.size
   have hgr := hkb.lt
   by_cases hlt : j < xs.length
   ·have hcl := pblk_cells hkb (show j < ys.length by omega)
    rw [inv.rest j (Nat.le_refl j) hlt] at hcl
    have HINV := Lib.hid inv
    generalize hv : xs[j]! = v at *
    have HV := Lib.hid hv
    obtain ⟨c0, c1⟩ := hcl
    clear inv hv
    have hcall := HP.out v (wr.alloc (.cells #[.int .i64 v.kd, .int .i64 v.am] 91)) (hbr.alloc (by omega) _)
    go_wp2_with fail
    refine hcall.mono ?_
    rintro e w2 ⟨rfl, hb2⟩
    have hvb := Bk.Blk.later (g := wr.heap.size) hb2 (Bk.Blk.nw10 (W := wr) (cs := #[.int .i64 v.kd, .int .i64 v.am]) (t := 91))
    have hkb2 := (hkb.alloc (o := .cells #[.int .i64 v.kd, .int .i64 v.am] 91)).later hb2
    have hbr2 : Below B w w2 := (hbr.alloc (show B ≤ wr.heap.size by omega) _).trans (hb2.mono (by simp; omega))
    clear hkb hbr hb2 hcall c0 c1
    cases hq : p v
    ·have HQ := Lib.hid hq
     clear hq
     have e0 := hvb.c0
     have e1 := hvb.c1
     have f0 := hkb2.free (i * 2)
     have f1 := hkb2.free (i * 2 + 1)
     have hix : i < xs.length := by omega
     obtain ⟨d0, d1⟩ := pblk_cells hkb2 (show i < ys.length by omega)
     generalize ys[i]! = u at *
     go_wp2_with fail
     go_roundg (gk - 1)
     case measure => omega
     case rel =>
      refine ⟨i + 1, j + 1, ys.set i v, by omega, by go_num, by go_num, ?_, ?_, ?_⟩
      ·have := HINV.out.keep hlt (by rw [HV.out]; exact HQ.out)
       rwa [HV.out] at this
      ·rw [← pflat_set v X ys i (by omega)]
       exact (Bk.Blk.set_same (Bk.Blk.set_same hkb2))
      ·exact (Below.setCell (Below.setCell hbr2 hB _) hB _)
    ·have HQ := Lib.hid hq
     clear hq
     go_wp2_with fail
     go_roundg (gk - 1)
     case measure => omega
     case rel => exact ⟨i, j + 1, ys, by omega, rfl, by go_num, HINV.out.skip hlt (by rw [HV.out]; exact HQ.out), hkb2, hbr2⟩
   ·have hjn : j = xs.length := by omega
    rw [hjn] at inv
    obtain ⟨hf1, hf2⟩ := inv.fin
    have HF1 := Lib.hid hf1
    have HF2 := Lib.hid hf2
    clear hf1 hf2 inv
    have hix : i < xs.length := by omega
    have hic : i < c := by omega
    have hl := flat_len penc_len ys
    have hcl : ∀ ty, (Builtin.clear_ #[83] ty #[.slice (some ⟨g, i * 2, none⟩) (xs.length - i) (c - i)]).run Tryz.prog wr = .ok (.tuple #[]) (wr.setCells g (i * 2) (Builtin.zeroCells #[.int .i64 0, .int .i64 0] (xs.length - i)).toList) := fun ty =>
     run_clear_k wr _ _ ty (.agg #[.int .i64 0, .int .i64 0]) Tryz.underlying83 Tryz.zeroValue91 (by decide) (by intro u hu; simp [Value.cells] at hu; subst hu; rfl) g (i * 2) (xs.length - i) (c - i) (by omega)
      (fun m hm => by
       rw [hkb.cell]
       simp [Value.cells] at hm
       simp [show i * 2 + m < (flat penc ys).length + X.length by rw [hl]; omega])
      (fun m _ => hkb.free _)
    have HKB := Lib.hid hkb
    clear hkb
    go_wp2_with fail
    go_ret
    refine ⟨by rw [HFL.out, HF2.out]; rfl, ?_, Go.below_setCells hB _ _ _ hbr⟩
    rw [HFL.out, ← HF1.out]
    intro _
    refine ⟨g, 0, rfl, fun m u hm => ?_⟩
    have hm2 : m < i * 2 := by
     have := (List.getElem?_eq_some_iff.1 hm).1
     rw [flat_len penc_len, List.length_take] at this
     have : min i ys.length * 2 ≤ i * 2 := Nat.mul_le_mul_right _ (Nat.min_le_left ..)
     omega
    rw [flat_take penc_len ys i m hm2 (by omega)] at hm
    rw [Nat.zero_add, World.cell?_setCells_out g _ _ _ _ (fun _ _ => .inl hm2), HKB.out.cell]
    have := (List.getElem?_eq_some_iff.1 hm).1
    simp [List.getElem?_append_left this, hm]

theorem owed1_any (B : Nat) (w : World) : pPred 70 #[] (fun p => decide (p.am ≤ 0)) B w := by
 intro d W _
 show Calls Tryz.prog 70 #[.agg #[.int .i64 d.kd, .int .i64 d.am]] W _
 go_enter Tryz.func70, Tryz.ntmps70
 go_wp2_with fail
 go_ret
 exact ⟨by simp, (Below.refl _ _).alloc (Nat.le_refl _) _⟩
theorem owed_filter (l : List Pa) : (l.filter fun p => !decide (p.am ≤ 0)) = pparts l := by
 unfold pparts
 apply List.filter_congr
 intro d _
 by_cases h : d.am ≤ 0
 ·rw [decide_eq_true h, decide_eq_false (by omega)]; rfl
 ·rw [decide_eq_false h, decide_eq_true (by omega)]; rfl
end Go.Proofs.YtlolflephnbbcaaGreatDoor.Ln

namespace Go.Proofs.YtlolflephnbbcaaGreatDoor.Ln
open Go.RowKit
open Go.Proofs.YtlolflephnbbcaaGreatDoor

theorem pparts_len (l : List Pa) : (pparts l).length ≤ l.length := List.length_filter_le ..
set_option maxHeartbeats 4000000 in
theorem owed_any (l : Lo) (da ca : Option Addr) (dk ck : Nat) (on : Int) (w : World) (h : DuesIn w da l.ds) (hl : l.ds.length ≤ 100000) :
  Calls Tryz.prog 37 #[(.agg #[.int .i64 (l).id, .int .i64 (l).ac, .int .i64 (l).st, .int .i64 (l).pp, .int .i64 (l).pi, .int .i64 (l).fee, .int .i64 (l).pen, .int .i64 (l).chg, .int .i64 (l).prov, .int .i64 (l).loss, .int .i64 (l).rcv, .int .i64 ((l).tm).me, .int .i64 ((l).tm).pr, .int .i64 ((l).tm).ppm, .int .i64 ((l).tm).stt, .int .i64 ((l).tm).ev, .int .i64 ((l).tm).ct, .int .i64 ((l).tm).ba, .int .i64 ((l).tm).mo, .int .i64 ((l).tm).pen, .int .i64 ((l).tm).fe, .string ((l).tm).cal, .string ((l).tm).cur, .slice da (l).ds.length dk, .slice ca (l).cs.length ck]), .int .i64 on] w fun e w' => ∃ g, e = .returned (.slice (some ⟨g, 0, none⟩) (powed l on).length 4) ∧ w.heap.size ≤ g ∧ RowIn penc w' (some ⟨g, 0, none⟩) (powed l on) ∧ Below w.heap.size w w' := by
 have b0 := Below.refl w.heap.size w
 have bb : Below w.heap.size w (w.alloc (.cells #[.int .i64 (l).id, .int .i64 (l).ac, .int .i64 (l).st, .int .i64 (l).pp, .int .i64 (l).pi, .int .i64 (l).fee, .int .i64 (l).pen, .int .i64 (l).chg, .int .i64 (l).prov, .int .i64 (l).loss, .int .i64 (l).rcv, .int .i64 ((l).tm).me, .int .i64 ((l).tm).pr, .int .i64 ((l).tm).ppm, .int .i64 ((l).tm).stt, .int .i64 ((l).tm).ev, .int .i64 ((l).tm).ct, .int .i64 ((l).tm).ba, .int .i64 ((l).tm).mo, .int .i64 ((l).tm).pen, .int .i64 ((l).tm).fe, .string ((l).tm).cal, .string ((l).tm).cur, .slice da (l).ds.length dk, .slice ca (l).cs.length ck] 32)) := b0.alloc (Nat.le_refl _) _
 have HU := Lib.hid (due_any da dk l.ds on _ (h.later bb) hl)
 have HS := Lib.hid (fun (a : Option Addr) (c : Nat) (W : World) (hW : DuesIn W a (due l.ds on)) => sums_any a c (due l.ds on) W hW)
 have HQ := Lib.hid (fun (W : World) (ho : OwnR penc 2 139 W w.heap.size W.heap.size 4 [⟨1, l.fee⟩]) => ho)
 have HO := Lib.hid (show powed l on = pparts [⟨1, l.fee⟩, ⟨2, l.pen⟩, ⟨3, wrap64 (I (due l.ds on) - l.pi)⟩, ⟨4, wrap64 (P (due l.ds on) - l.pp)⟩] from rfl)
 clear h HQ
 generalize P (due l.ds on) = p at *
 generalize I (due l.ds on) = i at *
 generalize powed l on = r at *
 generalize hdu : due l.ds on = du at *
 clear hdu
 go_enter Tryz.func37, Tryz.ntmps37
 go_wp2_with fail
 refine (HU.out).mono ?_
 rintro e w2 ⟨a', c', rfl, hdi, hb2⟩
 have hk := Bk.Blk.later (g := w.heap.size) hb2 (Bk.Blk.nw10 (W := w) (cs := #[.int .i64 (l).id, .int .i64 (l).ac, .int .i64 (l).st, .int .i64 (l).pp, .int .i64 (l).pi, .int .i64 (l).fee, .int .i64 (l).pen, .int .i64 (l).chg, .int .i64 (l).prov, .int .i64 (l).loss, .int .i64 (l).rcv, .int .i64 ((l).tm).me, .int .i64 ((l).tm).pr, .int .i64 ((l).tm).ppm, .int .i64 ((l).tm).stt, .int .i64 ((l).tm).ev, .int .i64 ((l).tm).ct, .int .i64 ((l).tm).ba, .int .i64 ((l).tm).mo, .int .i64 ((l).tm).pen, .int .i64 ((l).tm).fe, .string ((l).tm).cal, .string ((l).tm).cur, .slice da (l).ds.length dk, .slice ca (l).cs.length ck]) (t := 32))
 have b2 := bl2 hb2 bb
 have HS2 := Lib.hid (HS.out a' c' w2 hdi)
 clear hb2 hdi HS
 go_wp2_with fail
 refine (HS2.out).mono ?_
 rintro e w3 ⟨rfl, hb3⟩
 replace hk := hk.later hb3
 have b3 := bl2 hb3 b2
 have z3 := b3.size
 clear hb3
 have l3 := hk.c3
 have l4 := hk.c4
 have l5 := hk.c5
 have l6 := hk.c6
 have HD := Lib.hid (pdel_any 70 #[] (fun p => decide (p.am ≤ 0)) w.heap.size w3.heap.size 4 [⟨1, l.fee⟩, ⟨2, l.pen⟩, ⟨3, wrap64 (i - l.pi)⟩, ⟨4, wrap64 (p - l.pp)⟩]
  (w3.alloc (.cells #[.int .i64 1, .int .i64 l.fee, .int .i64 2, .int .i64 l.pen, .int .i64 3, .int .i64 (wrap64 (i - l.pi)), .int .i64 4, .int .i64 (wrap64 (p - l.pp))] 139)) (enters_of Tryz.func70 (by kernel_rfl) rfl) (owed1_any _ _)
  ⟨z3, by decide, [], by simp, Bk.Blk.nw10⟩ (by simp) (by simp))
 rw [owed_filter, ← HO.out] at HD
 go_wp2_with fail
 refine (HD.out).mono ?_
 rintro e w4 ⟨rfl, hrow, hb4⟩
 go_wp2_with fail
 go_ret
 exact ⟨_, rfl, z3, hrow, (b3.alloc z3 _).trans hb4⟩
end Go.Proofs.YtlolflephnbbcaaGreatDoor.Ln

namespace Go.Proofs.YtlolflephnbbcaaGreatDoor.Ln
open Go.RowKit
open Go.Proofs.YtlolflephnbbcaaGreatDoor

def samepartsR (w : World) (n : Nat) (g : Nat) (s5 : Value) (W : World) : Prop := ∃ k : Nat, k + g = n ∧ s5 = .int .i64 k ∧ Below w.heap.size w W
set_option maxHeartbeats 4000000 in
theorem sameparts_any (a1 a2 : Option Addr) (k1 k2 : Nat) (xs : List Pa) (w : World) (h1 : RowIn penc w a1 xs) (h2 : RowIn penc w a2 xs) (hn : xs.length ≤ 100000) :
  Calls Tryz.prog 36 #[.slice a1 xs.length k1, .slice a2 xs.length k2] w fun e w' => e = .returned (.bool true) ∧ Below w.heap.size w w' := by
 have H1 := Lib.hid h1
 have H2 := Lib.hid h2
 clear h1 h2
 go_enter Tryz.func36, Tryz.ntmps36
 go_wp2_with fail
 go_loopg [5] xs.length (samepartsR w xs.length)
 case atStart => exact ⟨0, by omega, rfl, Below.refl _ _⟩
 case round =>
  obtain ⟨k, hk, rfl, hbr⟩ := hrel
  by_cases hlt : k < xs.length
  ·obtain ⟨b, off, rfl, hc⟩ := H1.out.parts (by omega)
   obtain ⟨b', off', rfl, hd⟩ := H2.out.parts (by omega)
   obtain ⟨c0, c1⟩ := hc k hlt
   obtain ⟨d0, d1⟩ := hd k hlt
   replace c0 := cell_later hbr c0; replace c1 := cell_later hbr c1
   replace d0 := cell_later hbr d0; replace d1 := cell_later hbr d1
   clear hc hd
   generalize xs[k]! = x at *
   go_wp2_with fail
   go_region
   all_goals go_wp2_with fail
   go_roundg (gk - 1)
   case measure => omega
   case rel => exact ⟨k + 1, by omega, by go_num, hbr.drew⟩
  ·go_wp2_with fail
   go_ret
   exact ⟨rfl, hbr⟩

def sameduesR (w : World) (n : Nat) (g : Nat) (s5 : Value) (W : World) : Prop := ∃ k : Nat, k + g = n ∧ s5 = .int .i64 k ∧ Below w.heap.size w W
end Go.Proofs.YtlolflephnbbcaaGreatDoor.Ln

namespace Go.Proofs.YtlolflephnbbcaaGreatDoor.Ln
open Go.RowKit
open Go.Proofs.YtlolflephnbbcaaGreatDoor

theorem part_info : (Tryz.prog.info? 91).map (fun i => (i.zero, i.size, i.bytes)) = some (some (.agg #[.int .i64 0, .int .i64 0]), 2, 16) := by kernel_rfl
def PV (W : World) (B : Nat) (v : Value) (ps : List Pa) : Prop := W.ownsRow B 91 2 v ps.length (flat penc ps) ∧ ∃ a c, v = .slice a ps.length c
theorem PV.nil (W : World) (B : Nat) : PV W B (.slice none 0 0) [] := ⟨⟨rfl, .inl ⟨rfl, rfl⟩⟩, none, 0, rfl⟩
theorem PV.row {W : World} {B : Nat} {v : Value} {ps : List Pa} (h : PV W B v ps) : ∃ a c, v = .slice a ps.length c ∧ RowIn penc W a ps ∧ (∀ ad, a = some ad → B ≤ ad.block) := by
 obtain ⟨ho, a, c, rfl⟩ := h
 by_cases hn : (Value.slice a ps.length c) = .slice none 0 0
 ·obtain ⟨rfl, h0, rfl⟩ := by simpa using hn
  exact ⟨none, 0, rfl, fun h => by simp [h0] at h, fun ad h => by cases h⟩
 ·obtain ⟨g, c', he, hr⟩ := OwnR.of ho hn
  obtain ⟨rfl, _, rfl⟩ := by simpa using he
  exact ⟨_, _, rfl, hr.row, fun ad h => by cases h; exact hr.1⟩
def ROR (w : World) (all : List Pa) (g0 : Nat) (g : Nat) (s6 s7 : Value) (W : World) : Prop := ∃ k : Nat, k + g = all.length ∧ s7 = .int .i64 k ∧ PV W w.heap.size s6 (pparts (all.take k)) ∧ s6.ownBlock ≠ some g0 ∧ Bk.Blk W g0 ((flat penc all ++ []).toArray) 91 ∧ Below w.heap.size w W
end Go.Proofs.YtlolflephnbbcaaGreatDoor.Ln

namespace Go.Proofs.YtlolflephnbbcaaGreatDoor.Ln
open Go.RowKit
open Go.Proofs.YtlolflephnbbcaaGreatDoor

theorem Blk_setRow_same {W : World} {g : Nat} {old cs : Array Value} {t : TypeId} (h : Bk.Blk W g old t) : Bk.Blk (W.setRow g cs) g cs t := setRow_heap W g old cs t (0, 0) h
theorem Blk_setRow_ne {W : World} {g g' : Nat} {cs cs' : Array Value} {t : TypeId} (h : Bk.Blk W g cs t) (hne : g ≠ g') : Bk.Blk (W.setRow g' cs') g cs t := (setRow_other W g' g cs' hne).trans h
theorem Below_setRow {B g : Nat} {w0 w : World} (hb : Below B w0 w) (h : B ≤ g) (cs : Array Value) : Below B w0 (w.setRow g cs) :=
 ⟨hb.os, hb.tape, hb.output, by rw [size_setRow]; exact hb.size, fun k hk => (setRow_other w g k cs (by omega)).trans (hb.block k hk)⟩
theorem results3_cell {P : Program} {fn : Func} {p u v : Tmp} {ty : TypeId} (h : fn.results = #[.cell p ty, .tmp u, .tmp v]) (tmps : Array Value) (w : World) (g : Nat) (t : TypeId) (cs : Array Value) (fr : Nat × Nat) (d : TypeDesc)
  (hp : tmps.getD p undef = .pointer (some ⟨g, 0, none⟩)) (hg : w.heap[g]? = some (.cells cs t fr))
  (hu : P.underlying ty = some d) (hd : (match d with | .struct _ | .array _ _ => true | _ => false) = true) (hi : (P.info? ty).map (·.size) = some cs.size) :
  (results fn tmps).run P w = .ok (.tuple #[.agg cs, tmps.getD u undef, tmps.getD v undef]) w := by
 have hp' : tmps[p]?.getD undef = .pointer (some ⟨g, 0, none⟩) := by simpa using hp
 simp [results, h, hp', asAddr, run_loadVar_row w g t ty cs fr d hg hu hd hi]
theorem one25 (a0 a1 a2 a3 a4 a5 a6 a7 a8 a9 a10 a11 a12 a13 a14 a15 a16 a17 a18 a19 a20 : Int) (s u : ByteArray) (x y : Option Addr) (n m p q : Nat) : (#[.int .i64 a0, .int .i64 a1, .int .i64 a2, .int .i64 a3, .int .i64 a4, .int .i64 a5, .int .i64 a6, .int .i64 a7, .int .i64 a8, .int .i64 a9, .int .i64 a10, .int .i64 a11, .int .i64 a12, .int .i64 a13, .int .i64 a14, .int .i64 a15, .int .i64 a16, .int .i64 a17, .int .i64 a18, .int .i64 a19, .int .i64 a20, .string s, .string u, .slice x n p, .slice y m q] : Array Value).all (·.oneCell') = true := by
 simp [Value.oneCell']
def Lo.app (l : Lo) (p : Pa) : Lo := if p.kd = 1 then { l with fee := l.fee - p.am } else if p.kd = 2 then { l with pen := l.pen - p.am } else if p.kd = 3 then { l with pi := l.pi + p.am } else { l with pp := l.pp + p.am }

end Go.Proofs.YtlolflephnbbcaaGreatDoor.Ln

namespace Go.Proofs.YtlolflephnbbcaaGreatDoor.Ln
open Go.RowKit
open Go.Proofs.YtlolflephnbbcaaGreatDoor

theorem yields_load_row {P : Program} {ops : Array Oper} {S : World → Prop} {a : Act} {o : Oper} (hw : Region.wanted o (yielded ops a.tmps) = true) (ty : TypeId) (x : Operand) (ho : o.op = .load ty x)
  (g : Nat) (hx : a.eval x = .pointer (some ⟨g, 0, none⟩)) (t : TypeId) (cs : Array Value) (fr : Nat × Nat) (d : TypeDesc) (hg : ∀ w, S w → w.heap[g]? = some (.cells cs t fr))
  (hu : P.underlying ty = some d) (hd : (match d with | .struct _ | .array _ _ => true | _ => false) = true) (hi : (P.info? ty).map (·.size) = some cs.size) : YieldsIf P ops S o (.agg cs) a :=
 .inl ⟨hw, fun w hw => by
  unfold execOp
  simp only [ho, hx, Instr.loadAt, Instr.sureAddr, Sem.run_bind, Sem.run_pure, Result.andThen_ok, run_loadVar_row w g t ty cs fr d (hg w hw) hu hd hi]⟩
section
variable {P : Program} {md : Region.Mode} {l : List Oper} {Q : Exit → Act → World → Prop} {S : World → Prop} {fuel : Nat} {listed : Array Bool} {a : Act} {w : World}
theorem take_at (i : Nat) (hi : i < l.length) {v : Value} (hs : Region.noSelect l.toArray = true) (hf : Region.free md l.toArray listed i = true) (hr : (Region.ready md l.toArray listed).contains i = true)
  (hQ : ∀ c a w, Q (.panic c) (a.put l[i].dst v) w → Q (.panic c) a w) (hS : S w) (hy : YieldsIf P l.toArray S l[i] v a)
  (h : wpAnyH P md l.toArray Q S fuel (listed.setIfInBounds i true) (a.put l[i].dst v) w) : wpAnyH P md l.toArray Q S (fuel + 1) listed a w :=
 wpAnyH_take (oi := l[i]) (by simp [hi]) hs hf hr hQ hy hS h
theorem one_at (i : Nat) (hi : i < l.length) (hr : Region.ready md l.toArray listed = [i]) (hw : Region.wanted l[i] (yielded l.toArray a.tmps) = true)
  (h : ∀ K' : Act → World → Prop, Shut (∀ a w, S w → (S w → wpAnyH P md l.toArray Q S fuel (listed.setIfInBounds i true) a w) → K' a w) → Oper.wp P l[i] a w K' Q) : wpAnyH P md l.toArray Q S (fuel + 1) listed a w :=
 wpAnyH_ready hr (by simp) (AllReadyH.cons (o := l[i]) (by simp [hi]) (fun K hK => by rw [if_pos hw]; exact h K hK) AllReadyH.nil)
end
end Go.Proofs.YtlolflephnbbcaaGreatDoor.Ln

namespace Go.Proofs.YtlolflephnbbcaaGreatDoor.Ln
open Go.RowKit
open Go.Proofs.YtlolflephnbbcaaGreatDoor

section
variable {P : Program} {md : Region.Mode} {l : List Oper} {Q : Exit → Act → World → Prop} {S : World → Prop} {fuel : Nat} {listed : Array Bool} {a : Act} {w : World}
theorem call_wp {o : Oper} {K : Act → World → Prop} {f : FuncId} {args : Array Value} (hrun : (execOp a.eval o).run P w = .ok (.enter f args) w)
  (hc : Calls P f args w fun e w' => ∃ v, e = .returned v ∧ K (a.put o.dst v) w') : Oper.wp P o a w K Q := by
 unfold Oper.wp
 rw [hrun, Oper.upon_enter]
 exact hc.mono (by rintro e w' ⟨v, rfl, hk⟩; exact hk)
theorem call_at (i : Nat) (hi : i < l.length) {Pi : Value → World → Prop} {f : FuncId} {args : Array Value} (hr : Region.ready md l.toArray listed = [i]) (hw : Region.wanted l[i] (yielded l.toArray a.tmps) = true)
  (he : (execOp a.eval l[i]).run P w = .ok (.enter f args) w) (hc : Calls P f args w fun e w' => ∃ v, e = .returned v ∧ Pi v w' ∧ S w')
  (h : ∀ W u, S W → Pi u W → wpAnyH P md l.toArray Q S fuel (listed.setIfInBounds i true) (a.put l[i].dst u) W) : wpAnyH P md l.toArray Q S (fuel + 1) listed a w :=
 one_at i hi hr hw fun K hK => call_wp he (hc.mono (by rintro e w' ⟨v, rfl, hp, hs⟩; exact ⟨v, rfl, hK.out _ _ hs (fun _ => h w' v hs hp)⟩))
theorem call_pv {S : World → Prop} {Pi : Value → World → Prop} {f : FuncId} {args : Array Value} {W : World} (hm : ∀ W W', S W → Below W.heap.size W W' → S W') (hS : S W)
  (h : Calls P f args W fun e w' => ∃ v, e = .returned v ∧ Pi v w' ∧ Below W.heap.size W w') : Calls P f args W fun e w' => ∃ v, e = .returned v ∧ Pi v w' ∧ S w' :=
 h.mono fun _ _ ⟨v, he, hv, hb⟩ => ⟨v, he, hv, hm _ _ hS hb⟩
theorem call_one {S : World → Prop} {c : Value} {f : FuncId} {args : Array Value} {W : World} (hm : ∀ W W', S W → Below W.heap.size W W' → S W') (hS : S W)
  (h : Calls P f args W fun e w' => e = .returned c ∧ Below W.heap.size W w') : Calls P f args W fun e w' => ∃ v, e = .returned v ∧ v = c ∧ S w' :=
 h.mono fun _ _ ⟨he, hb⟩ => ⟨c, he, rfl, hm _ _ hS hb⟩
end
def SQ (w0 : World) (g : Nat) (cs : Array Value) (t : TypeId) (W : World) : Prop := Bk.Blk W g cs t ∧ Below w0.heap.size w0 W
theorem SQ.mono {w0 : World} {g : Nat} {cs : Array Value} {t : TypeId} : ∀ W W', SQ w0 g cs t W → Below W.heap.size W W' → SQ w0 g cs t W' := fun _ _ h hb => ⟨h.1.later hb, bl2 hb h.2⟩
def SQ2 (w0 : World) (g : Nat) (cs : Array Value) (g' : Nat) (cs' : Array Value) (t : TypeId) (W : World) : Prop := (Bk.Blk W g cs t ∧ Bk.Blk W g' cs' t) ∧ Below w0.heap.size w0 W
theorem SQ2.mono {w0 : World} {g g' : Nat} {cs cs' : Array Value} {t : TypeId} : ∀ W W', SQ2 w0 g cs g' cs' t W → Below W.heap.size W W' → SQ2 w0 g cs g' cs' t W' := fun _ _ h hb => ⟨⟨h.1.1.later hb, h.1.2.later hb⟩, bl2 hb h.2⟩
def PartsV (ps : List Pa) (v : Value) (W : World) : Prop := ∃ a c, v = .slice a ps.length c ∧ RowIn penc W a ps
theorem PartsV.mono {ps : List Pa} : ∀ u W W', Below W.heap.size W W' → PartsV ps u W → PartsV ps u W' := fun _ _ _ hb ⟨a, c, he, hr⟩ => ⟨a, c, he, hr.later hb⟩
end Go.Proofs.YtlolflephnbbcaaGreatDoor.Ln

namespace Go.Proofs.YtlolflephnbbcaaGreatDoor.Ln
open Go.RowKit
open Go.Proofs.YtlolflephnbbcaaGreatDoor

section
variable {P : Program} {md : Region.Mode} {l : List Oper} {Q : Exit → Act → World → Prop} {S : World → Prop} {fuel : Nat} {listed : Array Bool} {a : Act} {w : World}
theorem two_at (i j : Nat) (hi : i < l.length) (hj : j < l.length) (hr : Region.ready md l.toArray listed = [i, j]) (wi : Region.wanted l[i] (yielded l.toArray a.tmps) = true) (wj : Region.wanted l[j] (yielded l.toArray a.tmps) = true)
  (h1 : ∀ K' : Act → World → Prop, Shut (∀ a w, S w → (S w → wpAnyH P md l.toArray Q S fuel (listed.setIfInBounds i true) a w) → K' a w) → Oper.wp P l[i] a w K' Q)
  (h2 : ∀ K' : Act → World → Prop, Shut (∀ a w, S w → (S w → wpAnyH P md l.toArray Q S fuel (listed.setIfInBounds j true) a w) → K' a w) → Oper.wp P l[j] a w K' Q) : wpAnyH P md l.toArray Q S (fuel + 1) listed a w :=
 wpAnyH_ready hr (by simp) (AllReadyH.cons (o := l[i]) (by simp [hi]) (fun K hK => by rw [if_pos wi]; exact h1 K hK) (AllReadyH.cons (o := l[j]) (by simp [hj]) (fun K hK => by rw [if_pos wj]; exact h2 K hK) AllReadyH.nil))
theorem value_wp {o : Oper} {K : Act → World → Prop} {v : Value} {w' : World} (hrun : (execOp a.eval o).run P w = .ok (.value v) w') (h : K (a.put o.dst v) w') : Oper.wp P o a w K Q := by
 unfold Oper.wp
 rw [hrun]
 simp only [Oper.upon]
 exact h
end
theorem RowIn.blk {α : Type} {enc : α → List Value} {W W' : World} {a : Option Addr} {xs : List α} (h : RowIn enc W a xs) (hb : ∀ ad, a = some ad → W'.heap[ad.block]? = W.heap[ad.block]?) : RowIn enc W' a xs := fun h0 => by
 obtain ⟨b, off, ha, hc⟩ := h h0
 refine ⟨b, off, ha, fun j u hj => ?_⟩
 have := hb _ ha
 exact (World.cell?_of_block (a := ⟨b, off + j, none⟩) this).trans (hc j u hj)
def SB (w0 : World) (W : World) : Prop := Below w0.heap.size w0 W
theorem SB.mono {w0 : World} : ∀ W W', SB w0 W → Below W.heap.size W W' → SB w0 W' := fun _ _ h hb => bl2 hb h
end Go.Proofs.YtlolflephnbbcaaGreatDoor.Ln

namespace Go.Proofs.YtlolflephnbbcaaGreatDoor.Ln
open Go.RowKit
open Go.Proofs.YtlolflephnbbcaaGreatDoor

theorem cln_due (a : Option Addr) (cap : Nat) (ds : List Du) (w : World) (h : DuesIn w a ds) (hl : ds.length ≤ 100000) :
  Calls Tryz.prog 17 #[.slice a ds.length cap] w fun e w' => ∃ a' c', e = .returned (.slice a' ds.length c') ∧ RowIn denc w' a' ds ∧ (∀ ad, a' = some ad → w.heap.size ≤ ad.block) ∧ Below w.heap.size w w' :=
 (cloned_any a cap ds w h hl).mono fun e w' ⟨hb, h⟩ => by
  rcases h with ⟨rfl, rfl, rfl⟩ | ⟨g, c, rfl, ho⟩
  ·exact ⟨none, 0, rfl, fun h => absurd h (Nat.not_lt_zero _), (fun ad had => by cases had), hb⟩
  ·exact ⟨_, _, rfl, ho.row, (fun ad had => by cases had; exact ho.1), hb⟩
theorem cln_chg (a : Option Addr) (cap : Nat) (cs : List Ch) (w : World) (h : RowIn cenc w a cs) (hl : cs.length ≤ 100000) :
  Calls Tryz.prog 18 #[.slice a cs.length cap] w fun e w' => ∃ a' c', e = .returned (.slice a' cs.length c') ∧ RowIn cenc w' a' cs ∧ (∀ ad, a' = some ad → w.heap.size ≤ ad.block) ∧ Below w.heap.size w w' :=
 (clonec_any a cap cs w h hl).mono fun e w' ⟨hb, h⟩ => by
  rcases h with ⟨rfl, rfl, rfl⟩ | ⟨g, c, rfl, ho⟩
  ·exact ⟨none, 0, rfl, fun h => absurd h (Nat.not_lt_zero _), (fun ad had => by cases had), hb⟩
  ·exact ⟨_, _, rfl, ho.row, (fun ad had => by cases had; exact ho.1), hb⟩
def Zc : Array Value := #[.int .i64 0, .int .i64 0, .int .i64 0, .int .i64 0, .int .i64 0, .int .i64 0, .int .i64 0, .int .i64 0, .int .i64 0, .int .i64 0, .int .i64 0, .int .i64 0, .int .i64 0, .int .i64 0, .int .i64 0, .int .i64 0, .int .i64 0, .int .i64 0, .int .i64 0, .int .i64 0, .int .i64 0, .string { data := #[] }, .string { data := #[] }, .slice none 0 0, .slice none 0 0]
structure MSt (w W : World) (zc : Array Value) (L : Lo) (da ca : Option Addr) (dk ck : Nat) : Prop where
 k : Bk.Blk W w.heap.size #[.int .i64 (L).id, .int .i64 (L).ac, .int .i64 (L).st, .int .i64 (L).pp, .int .i64 (L).pi, .int .i64 (L).fee, .int .i64 (L).pen, .int .i64 (L).chg, .int .i64 (L).prov, .int .i64 (L).loss, .int .i64 (L).rcv, .int .i64 ((L).tm).me, .int .i64 ((L).tm).pr, .int .i64 ((L).tm).ppm, .int .i64 ((L).tm).stt, .int .i64 ((L).tm).ev, .int .i64 ((L).tm).ct, .int .i64 ((L).tm).ba, .int .i64 ((L).tm).mo, .int .i64 ((L).tm).pen, .int .i64 ((L).tm).fe, .string ((L).tm).cal, .string ((L).tm).cur, .slice da (L).ds.length dk, .slice ca (L).cs.length ck] 32
 z : Bk.Blk W (w.heap.size + 1) zc 32
 b : Below w.heap.size w W
section
variable {w W : World} {zc : Array Value} {L : Lo} {da ca : Option Addr} {dk ck : Nat}
theorem MSt.drew (h : MSt w W zc L da ca dk ck) : MSt w W.drew zc L da ca dk ck := ⟨h.k.drew, h.z.drew, h.b.drew⟩
theorem MSt.later {W' : World} (h : MSt w W zc L da ca dk ck) (hb : Below W.heap.size W W') : MSt w W' zc L da ca dk ck := ⟨h.k.later hb, h.z.later hb, bl2 hb h.b⟩
theorem MSt.sz (h : MSt w W zc L da ca dk ck) : w.heap.size + 1 < W.heap.size := h.z.lt
theorem MSt.put (h : MSt w W zc L da ca dk ck) (i : Nat) (u : Value) (L' : Lo) {da' ca' : Option Addr} {dk' ck' : Nat} (e : (#[.int .i64 (L).id, .int .i64 (L).ac, .int .i64 (L).st, .int .i64 (L).pp, .int .i64 (L).pi, .int .i64 (L).fee, .int .i64 (L).pen, .int .i64 (L).chg, .int .i64 (L).prov, .int .i64 (L).loss, .int .i64 (L).rcv, .int .i64 ((L).tm).me, .int .i64 ((L).tm).pr, .int .i64 ((L).tm).ppm, .int .i64 ((L).tm).stt, .int .i64 ((L).tm).ev, .int .i64 ((L).tm).ct, .int .i64 ((L).tm).ba, .int .i64 ((L).tm).mo, .int .i64 ((L).tm).pen, .int .i64 ((L).tm).fe, .string ((L).tm).cal, .string ((L).tm).cur, .slice da (L).ds.length dk, .slice ca (L).cs.length ck] : Array Value).setIfInBounds i u = #[.int .i64 (L').id, .int .i64 (L').ac, .int .i64 (L').st, .int .i64 (L').pp, .int .i64 (L').pi, .int .i64 (L').fee, .int .i64 (L').pen, .int .i64 (L').chg, .int .i64 (L').prov, .int .i64 (L').loss, .int .i64 (L').rcv, .int .i64 ((L').tm).me, .int .i64 ((L').tm).pr, .int .i64 ((L').tm).ppm, .int .i64 ((L').tm).stt, .int .i64 ((L').tm).ev, .int .i64 ((L').tm).ct, .int .i64 ((L').tm).ba, .int .i64 ((L').tm).mo, .int .i64 ((L').tm).pen, .int .i64 ((L').tm).fe, .string ((L').tm).cal, .string ((L').tm).cur, .slice da' (L').ds.length dk', .slice ca' (L').cs.length ck']) :
  MSt w (W.setCell ⟨w.heap.size, i, none⟩ u) zc L' da' ca' dk' ck' := ⟨h.k.set_same.conv e, h.z.set_ne (by omega), h.b.setCell (Nat.le_refl _) _⟩
end
def MCl (w : World) (zc : Array Value) (L : Lo) (wx : World) : Prop := ∃ da' ca' dk' ck', MSt w wx zc L da' ca' dk' ck' ∧ RowIn denc wx da' L.ds ∧ RowIn cenc wx ca' L.cs ∧ (∀ ad, da' = some ad → w.heap.size + 1 < ad.block) ∧ (∀ ad, ca' = some ad → w.heap.size + 1 < ad.block)
theorem row_put {α : Type} {enc : α → List Value} {W : World} {a : Option Addr} {xs : List α} {ad0 : Addr} {u : Value} (h : RowIn enc W a xs) (hne : ∀ ad, a = some ad → ad.block ≠ ad0.block) : RowIn enc (W.setCell ad0 u) a xs := fun h0 => by
 obtain ⟨b, off, ha, hc⟩ := h h0
 have e : (W.setCell ad0 u).heap[b]? = W.heap[b]? := Below.heap_setCell _ _ _ _ (hne _ ha)
 exact ⟨b, off, ha, fun j v hj => (World.cell?_of_block (a := ⟨b, off + j, none⟩) e).trans (hc j v hj)⟩
theorem row_row {α : Type} {enc : α → List Value} {W : World} {a : Option Addr} {xs : List α} {g : Nat} {cs : Array Value} (h : RowIn enc W a xs) (hne : ∀ ad, a = some ad → ad.block ≠ g) : RowIn enc (W.setRow g cs) a xs := fun h0 => by
 obtain ⟨b, off, ha, hc⟩ := h h0
 have e : (W.setRow g cs).heap[b]? = W.heap[b]? := setRow_other _ _ _ _ (hne _ ha)
 exact ⟨b, off, ha, fun j v hj => (World.cell?_of_block (a := ⟨b, off + j, none⟩) e).trans (hc j v hj)⟩
theorem mcl_fin {w W : World} {zc : Array Value} {L : Lo} {da ca a1 a2 : Option Addr} {dk ck c1 c2 n1 n2 : Nat} (h : MSt w W zc L da ca dk ck)
  (h1 : RowIn denc W a1 L.ds) (h2 : RowIn cenc W a2 L.cs) (f1 : ∀ ad, a1 = some ad → n1 ≤ ad.block) (f2 : ∀ ad, a2 = some ad → n2 ≤ ad.block) (k1 : w.heap.size + 1 < n1) (k2 : w.heap.size + 1 < n2) :
  MCl w zc L ((W.setCell ⟨w.heap.size, 23, none⟩ (.slice a1 L.ds.length c1)).setCell ⟨w.heap.size, 24, none⟩ (.slice a2 L.cs.length c2)) := by
 refine ⟨a1, a2, c1, c2, (h.put 23 (.slice a1 L.ds.length c1) L (da' := a1) (ca' := ca) (dk' := c1) (ck' := ck) (by simp)).put 24 _ L (by simp), ?_, ?_, fun ad had => by have := f1 ad had; omega, fun ad had => by have := f2 ad had; omega⟩
 ·exact row_put (row_put h1 (fun ad had => by have := f1 ad had; simp; omega)) (fun ad had => by have := f1 ad had; simp; omega)
 ·exact row_put (row_put h2 (fun ad had => by have := f2 ad had; simp; omega)) (fun ad had => by have := f2 ad had; simp; omega)
end Go.Proofs.YtlolflephnbbcaaGreatDoor.Ln
