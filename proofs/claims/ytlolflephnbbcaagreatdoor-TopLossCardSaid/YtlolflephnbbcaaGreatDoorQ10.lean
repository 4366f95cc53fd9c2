/-
  Parts of the proof: La.
-/
import Derived.Test.YtlolflephnbbcaaGreatDoorQ09
import Derived.Test.YtlolflephnbbcaaGreatDoorQ02
import Derived.Deep.LoopGhost
import Derived.Test.YtlolflephnbbcaaGreatDoorChecked
import Derived.Lib.Hide
import Derived.ProofKit
import Derived.Laws.AppendOwn
import Derived.Laws.OwnMore
import Derived.Lib.SliceRun
import Derived.Shelf.Abstract
import Derived.Laws.Rows
import Derived.Laws.Tables
import Derived.BigFrame
namespace Go.Proofs.YtlolflephnbbcaaGreatDoor.Ln
open Go.RowKit
open Go.Proofs.YtlolflephnbbcaaGreatDoor


def DuesIn (W : World) (a : Option Addr) (ds : List Du) : Prop := ds.length ≤ 2305843009213693951 ∧ (0 < ds.length → ∃ b off, a = some ⟨b, off, none⟩ ∧ ∀ j, j < ds.length →
 W.cell? ⟨b, off + j * 4, none⟩ = some (.int .i64 ds[j]!.no) ∧ W.cell? ⟨b, off + j * 4 + 1, none⟩ = some (.int .i64 ds[j]!.day) ∧ W.cell? ⟨b, off + j * 4 + 2, none⟩ = some (.int .i64 ds[j]!.pr) ∧ W.cell? ⟨b, off + j * 4 + 3, none⟩ = some (.int .i64 ds[j]!.it))
theorem DuesIn.later {W w1 : World} {a : Option Addr} {ds : List Du} (hb : Below W.heap.size W w1) (h : DuesIn W a ds) : DuesIn w1 a ds :=
 ⟨h.1, fun h0 => by
  obtain ⟨b, off, ha, hc⟩ := h.2 h0
  exact ⟨b, off, ha, fun j hj => ⟨cell_later hb (hc j hj).1, cell_later hb (hc j hj).2.1, cell_later hb (hc j hj).2.2.1, cell_later hb (hc j hj).2.2.2⟩⟩⟩
theorem bl2 {w W w1 : World} (hb : Below W.heap.size W w1) (h : Below w.heap.size w W) : Below w.heap.size w w1 := h.trans (hb.mono h.size)

theorem day_any (n : Int) (w : World) : Calls Tryz.prog 62 #[.int .i64 n] w fun e w' => e = .returned (.bool (dayB n)) ∧ w = w' := by
 unfold dayB
 by_cases h : 0 ≤ n
 ·by_cases h2 : n ≤ 73048
  ·rw [decide_eq_true ⟨h, h2⟩]
   go_enter Tryz.func62, Tryz.ntmps62
   go_wp2_with fail
   go_ret
   exact ⟨by simp, rfl⟩
  ·rw [decide_eq_false (by omega)]
   go_enter Tryz.func62, Tryz.ntmps62
   go_wp2_with fail
   go_ret
   exact ⟨by simp, rfl⟩
 ·rw [decide_eq_false (by omega)]
  go_enter Tryz.func62, Tryz.ntmps62
  go_wp2_with fail
  go_ret
  exact ⟨by simp, rfl⟩

def SR (w : World) (ds : List Du) (g : Nat) (s4 s5 s10 : Value) (W : World) : Prop := ∃ k : Nat, k + g = ds.length ∧ s10 = .int .i64 k ∧ s4 = .int .i64 (P (ds.take k)) ∧ s5 = .int .i64 (I (ds.take k)) ∧ Below w.heap.size w W
set_option maxHeartbeats 2000000 in
theorem sums_any (a : Option Addr) (cap : Nat) (ds : List Du) (w : World) (h : DuesIn w a ds) :
  Calls Tryz.prog 50 #[.slice a ds.length cap] w fun e w' => e = .returned (.tuple #[.int .i64 (P ds), .int .i64 (I ds)]) ∧ Below w.heap.size w w' := by
 have H := Lib.hid h
 have hn := h.1
 clear h
 go_enter Tryz.func50, Tryz.ntmps50
 go_wp2_with fail
 go_loopg [4, 5, 10] ds.length (SR w ds)
 case atStart => exact ⟨0, by omega, rfl, by simp [P_nil], by simp [I_nil], Below.refl _ _⟩
 case round =>
  obtain ⟨k, hk, rfl, rfl, rfl, hbr⟩ := hrel
  by_cases hlt : k < ds.length
  ·obtain ⟨b, off, rfl, hc⟩ := H.out.2 (by omega)
   obtain ⟨c0, c1, c2, c3⟩ := hc k hlt
   replace c0 := cell_later hbr c0
   replace c1 := cell_later hbr c1
   replace c2 := cell_later hbr c2
   replace c3 := cell_later hbr c3
   have HP := Lib.hid (P_succ hlt)
   have HI := Lib.hid (I_succ hlt)
   have hz := hbr.size
   clear hc
   generalize ds[k]! = d at *
   generalize P (ds.take k) = p at *
   generalize I (ds.take k) = i at *
   go_wp2_with fail
   go_roundg (gk - 1)
   case measure => omega
   case rel => exact ⟨k + 1, by omega, by go_num, by rw [HP.out], by rw [HI.out], (hbr.alloc hz _)⟩
  ·have hkn : k = ds.length := by omega
   rw [hkn, List.take_length]
   clear hkn
   go_wp2_with fail
   go_ret2
   exact ⟨rfl, hbr⟩
end Go.Proofs.YtlolflephnbbcaaGreatDoor.Ln

namespace Go.Proofs.YtlolflephnbbcaaGreatDoor.Ln
open Go.RowKit
open Go.Proofs.YtlolflephnbbcaaGreatDoor

section
variable {α : Type} (enc : α → List Value) (k : Nat)
def flat (xs : List α) : List Value := xs.flatMap enc
variable {enc k}
theorem flat_len (hk : ∀ x, (enc x).length = k) : ∀ xs : List α, (flat enc xs).length = xs.length * k
 | [] => by simp [flat]
 | x :: xs => by
  have := flat_len hk xs
  unfold flat at *
  rw [List.flatMap_cons, List.length_append, this, hk, List.length_cons, Nat.add_mul, Nat.one_mul, Nat.add_comm]
theorem flat_get [Inhabited α] (hk : ∀ x, (enc x).length = k) : ∀ (xs : List α) (j i : Nat), j < xs.length → i < k → (flat enc xs)[j * k + i]? = (enc xs[j]!)[i]?
 | [], j, i, h, _ => absurd h (Nat.not_lt_zero _)
 | x :: xs, 0, i, _, hi => by
  unfold flat
  rw [List.flatMap_cons, Nat.zero_mul, Nat.zero_add, List.getElem?_append_left (by rw [hk]; exact hi)]
  rfl
 | x :: xs, j + 1, i, h, hi => by
  have ih := flat_get hk xs j i (by simpa using h) hi
  unfold flat at *
  rw [List.flatMap_cons, List.getElem?_append_right (by rw [hk, Nat.add_mul]; omega), hk, show (j + 1) * k + i - k = j * k + i by rw [Nat.add_mul]; omega, ih]
  simp
theorem flat_mem {Q : Value → Prop} (h : ∀ x, ∀ u ∈ enc x, Q u) : ∀ (xs : List α), ∀ u ∈ flat enc xs, Q u := by
 intro xs u hu
 unfold flat at hu
 obtain ⟨x, _, hx⟩ := List.mem_flatMap.1 hu
 exact h x u hx
def RowIn (enc : α → List Value) (W : World) (a : Option Addr) (xs : List α) : Prop := 0 < xs.length → ∃ b off, a = some ⟨b, off, none⟩ ∧ ∀ j u, (flat enc xs)[j]? = some u → W.cell? ⟨b, off + j, none⟩ = some u
theorem RowIn.later {W w1 : World} {a : Option Addr} {xs : List α} (hb : Below W.heap.size W w1) (h : RowIn enc W a xs) : RowIn enc w1 a xs := fun h0 => by
 obtain ⟨b, off, ha, hc⟩ := h h0
 exact ⟨b, off, ha, fun j u hj => cell_later hb (hc j u hj)⟩
def OwnR (enc : α → List Value) (k : Nat) (e : TypeId) (W : World) (B g c : Nat) (xs : List α) : Prop := B ≤ g ∧ c ≤ maxLen ∧ ∃ X : List Value, xs.length * k + X.length = c * k ∧ Bk.Blk W g ((flat enc xs ++ X).toArray) e
theorem OwnR.lt {e : TypeId} {W : World} {B g c : Nat} {xs : List α} (h : OwnR enc k e W B g c xs) : g < W.heap.size := h.2.2.elim fun _ h => h.2.lt
theorem OwnR.later {e : TypeId} {W w1 : World} {B g c : Nat} {xs : List α} (hb : Below W.heap.size W w1) (h : OwnR enc k e W B g c xs) : OwnR enc k e w1 B g c xs := by
 obtain ⟨h1, h2, X, h3, h4⟩ := h
 exact ⟨h1, h2, X, h3, h4.later hb⟩
theorem OwnR.row {e : TypeId} {W : World} {B g c : Nat} {xs : List α} (h : OwnR enc k e W B g c xs) : RowIn enc W (some ⟨g, 0, none⟩) xs := fun _ => by
 obtain ⟨_, _, X, _, h4⟩ := h
 refine ⟨g, 0, rfl, fun j u hj => ?_⟩
 rw [Nat.zero_add, h4.cell]
 have := (List.getElem?_eq_some_iff.1 hj).1
 simp [List.getElem?_append_left this, hj]
theorem OwnR.of {e : TypeId} {W : World} {B : Nat} {v : Value} {xs : List α} (h : W.ownsRow B e k v xs.length (flat enc xs)) (hv : v ≠ .slice none 0 0) : ∃ g c, v = .slice (some ⟨g, 0, none⟩) xs.length c ∧ OwnR enc k e W B g c xs := by
 obtain ⟨_, h | ⟨g, c, cur, h1, h2, h3, h4, h5, h6, h7⟩⟩ := h
 ·exact absurd h.1 hv
 ·refine ⟨g, c, h1, h2, h5, cur.toList.drop (xs.length * k), ?_, ?_⟩
  ·have : xs.length * k ≤ c * k := Nat.mul_le_mul_right k h4
   simp only [List.length_drop, Array.length_toList, h6]; omega
  ·rw [← h7, List.take_append_drop]
   exact h3
end

/-! ### installments -/
def denc (d : Du) : List Value := [.int .i64 d.no, .int .i64 d.day, .int .i64 d.pr, .int .i64 d.it]
theorem denc_len (d : Du) : (denc d).length = 4 := rfl
theorem denc_one (d : Du) : ∀ u ∈ denc d, u.oneCell' = true := by
 intro u hu
 simp only [denc, List.mem_cons, List.not_mem_nil, or_false] at hu
 rcases hu with rfl | rfl | rfl | rfl <;> rfl
theorem DuesIn.row {W : World} {a : Option Addr} {ds : List Du} (h : DuesIn W a ds) : RowIn denc W a ds := fun h0 => by
 obtain ⟨b, off, ha, hc⟩ := h.2 h0
 refine ⟨b, off, ha, fun m u hm => ?_⟩
 have hlt : m < ds.length * 4 := by
  have := (List.getElem?_eq_some_iff.1 hm).1
  rwa [flat_len denc_len] at this
 have hj : m / 4 < ds.length := by omega
 have hi : m % 4 < 4 := Nat.mod_lt _ (by omega)
 have e : m / 4 * 4 + m % 4 = m := by omega
 rw [← e, flat_get denc_len ds _ _ hj hi] at hm
 obtain ⟨c0, c1, c2, c3⟩ := hc (m / 4) hj
 rw [← e]
 generalize m / 4 = j at *
 generalize m % 4 = i at *
 have : i = 0 ∨ i = 1 ∨ i = 2 ∨ i = 3 := by omega
 rcases this with rfl | rfl | rfl | rfl
 ·simp [denc] at hm; rw [← hm]; simpa using c0
 ·simp [denc] at hm; rw [← hm]; simpa [Nat.add_assoc] using c1
 ·simp [denc] at hm; rw [← hm]; simpa [Nat.add_assoc] using c2
 ·simp [denc] at hm; rw [← hm]; simpa [Nat.add_assoc] using c3
theorem dues_of_row {W : World} {a : Option Addr} {ds : List Du} (hn : ds.length ≤ 2305843009213693951) (h : RowIn denc W a ds) : DuesIn W a ds := ⟨hn, fun h0 => by
 obtain ⟨b, off, ha, hc⟩ := h h0
 refine ⟨b, off, ha, fun j hj => ?_⟩
 have c : ∀ i, i < 4 → W.cell? ⟨b, off + (j * 4 + i), none⟩ = (denc ds[j]!)[i]? := fun i hi => by
  have hg := flat_get denc_len ds j i hj hi
  have : i < (denc ds[j]!).length := hi
  rw [List.getElem?_eq_getElem this] at hg ⊢
  exact hc _ _ hg
 have c0 := c 0 (by omega)
 have c1 := c 1 (by omega)
 have c2 := c 2 (by omega)
 have c3 := c 3 (by omega)
 simp only [denc, ← Nat.add_assoc] at c0 c1 c2 c3
 exact ⟨by simpa using c0, by simpa using c1, by simpa using c2, by simpa using c3⟩⟩
theorem due_info : (Tryz.prog.info? 47).map (fun i => (i.zero, i.size, i.bytes)) = some (some (.agg #[.int .i64 0, .int .i64 0, .int .i64 0, .int .i64 0]), 4, 32) := by kernel_rfl

set_option maxHeartbeats 2000000 in
theorem cloned_any (a : Option Addr) (cap : Nat) (ds : List Du) (w : World) (h : DuesIn w a ds) (hl : ds.length ≤ 100000) :
  Calls Tryz.prog 17 #[.slice a ds.length cap] w fun e w' => Below w.heap.size w w' ∧
   ((a = none ∧ ds = [] ∧ e = .returned (.slice none 0 0)) ∨ ∃ g c, e = .returned (.slice (some ⟨g, 0, none⟩) ds.length c) ∧ OwnR denc 4 47 w' w.heap.size g c ds) := by
 have HR := Lib.hid h.row
 cases a with
 | none =>
  have h0 : ds = [] := by
   rcases Nat.eq_zero_or_pos ds.length with h0 | h0
   ·exact List.length_eq_zero_iff.1 h0
   ·obtain ⟨b, off, ha, _⟩ := h.2 h0; cases ha
  subst h0
  clear h hl
  have q24 : ∀ (w : World) (n c n' c' : Nat), (binOp .eql 29 (.slice none n c) (.slice none n' c')).run Tryz.prog w = .ok (.bool true) w := fun w n c n' c' => Lib.run_eql_slice_nil w _ _ none n c n' c' Tryz.underlying29
  go_enter Tryz.func17, Tryz.ntmps17
  go_wp2_with fail
  go_ret
  exact ⟨Below.refl _ _, .inl (by simp)⟩
 | some ad =>
  obtain ⟨i, hi, hzz⟩ := Option.map_eq_some_iff.1 due_info
  simp only [Prod.mk.injEq] at hzz
  obtain ⟨hz, hsz, hby⟩ := hzz
  have HI := Lib.hid (And.intro hi (And.intro hz (And.intro hsz hby)))
  have hn := h.1
  clear h hi hz hsz hby
  have q24 : ∀ (w : World) (n c n' c' : Nat), (binOp .eql 29 (.slice (some ad) n c) (.slice none n' c')).run Tryz.prog w = .ok (.bool false) w := fun w n c n' c' => Lib.run_eql_slice_nil w _ _ (some ad) n c n' c' Tryz.underlying29
  go_enter Tryz.func17, Tryz.ntmps17
  go_wp2_with (at_builtin; refine wpList_append_own _ rfl _ _ 29 rfl w.heap.size 47 i (.agg #[.int .i64 0, .int .i64 0, .int .i64 0, .int .i64 0]) 4 32 Tryz.underlying29 HI.out.1 HI.out.2.1 HI.out.2.2.1 HI.out.2.2.2 rfl (by decide) _ _ _ rfl (World.ownsRow_made w #[] 0 (Nat.le_refl _) (Nat.zero_le _) (by simp)) ad ds.length cap (flat denc ds) rfl ?qc1 ?qc2 ?qc3 ?qc4 ?qc5 ?qc6 ?_)
  case qc1 => exact flat_len denc_len ds
  case qc2 =>
   intro j u hj
   have h0 : 0 < ds.length := by
    rcases Nat.eq_zero_or_pos ds.length with h0 | h0
    ·rw [List.length_eq_zero_iff.1 h0] at hj; simp [flat] at hj
    ·exact h0
   obtain ⟨b, off, ha, hc⟩ := HR.out h0
   obtain rfl := Option.some.inj ha
   rw [show (⟨b, off, none⟩ : Addr).add j = ⟨b, off + j, none⟩ from Go.WideShapes.add_plain ..]
   exact Lib.cell?_alloc_some _ (hc j u hj)
  case qc3 => exact flat_mem denc_one ds
  case qc4 => rw [Nat.zero_add]; unfold maxLen; omega
  case qc5 => rw [Nat.zero_add]; omega
  case qc6 => simp
  intro v' w1 hown hgrow hnl
  have hnn : v' ≠ .slice none 0 0 := hnl
  obtain ⟨g, c, rfl, ho⟩ := OwnR.of hown hnn
  go_wp2_with fail
  go_ret
  exact ⟨((Below.refl _ w).alloc (Nat.le_refl _) _).grown hgrow (by simp) (by intro k hk; simp [Value.ownBlock] at hk; omega), .inr ⟨g, c, rfl, ho⟩⟩
end Go.Proofs.YtlolflephnbbcaaGreatDoor.Ln

namespace Go.Proofs.YtlolflephnbbcaaGreatDoor.Ln
open Go.RowKit
open Go.Proofs.YtlolflephnbbcaaGreatDoor

theorem amount_any (n : Int) (w : World) : Calls Tryz.prog 106 #[.int .i64 n] w fun e w' => e = .returned (.bool (amt n)) ∧ w = w' := by
 unfold amt
 by_cases h : 0 ≤ n
 ·by_cases h2 : n ≤ 1000000000000
  ·rw [decide_eq_true ⟨h, h2⟩]
   go_enter Tryz.func106, Tryz.ntmps106
   go_wp2_with fail
   go_ret
   exact ⟨by simp, rfl⟩
  ·rw [decide_eq_false (by omega)]
   go_enter Tryz.func106, Tryz.ntmps106
   go_wp2_with fail
   go_ret
   exact ⟨by simp, rfl⟩
 ·rw [decide_eq_false (by omega)]
  go_enter Tryz.func106, Tryz.ntmps106
  go_wp2_with fail
  go_ret
  exact ⟨by simp, rfl⟩

theorem rate_any (n : Int) (w : World) : Calls Tryz.prog 105 #[.int .i64 n] w fun e w' => e = .returned (.bool (rateB n)) ∧ w = w' := by
 unfold rateB
 by_cases h : 0 ≤ n
 ·by_cases h2 : n ≤ 1000000
  ·rw [decide_eq_true ⟨h, h2⟩]
   go_enter Tryz.func105, Tryz.ntmps105
   go_wp2_with fail
   go_ret
   exact ⟨by simp, rfl⟩
  ·rw [decide_eq_false (by omega)]
   go_enter Tryz.func105, Tryz.ntmps105
   go_wp2_with fail
   go_ret
   exact ⟨by simp, rfl⟩
 ·rw [decide_eq_false (by omega)]
  go_enter Tryz.func105, Tryz.ntmps105
  go_wp2_with fail
  go_ret
  exact ⟨by simp, rfl⟩

set_option maxHeartbeats 2000000 in
theorem left_any (l : Lo) (da ca : Option Addr) (dk ck : Nat) (w : World) (h : DuesIn w da l.ds) :
  Calls Tryz.prog 65 #[(.agg #[.int .i64 (l).id, .int .i64 (l).ac, .int .i64 (l).st, .int .i64 (l).pp, .int .i64 (l).pi, .int .i64 (l).fee, .int .i64 (l).pen, .int .i64 (l).chg, .int .i64 (l).prov, .int .i64 (l).loss, .int .i64 (l).rcv, .int .i64 ((l).tm).me, .int .i64 ((l).tm).pr, .int .i64 ((l).tm).ppm, .int .i64 ((l).tm).stt, .int .i64 ((l).tm).ev, .int .i64 ((l).tm).ct, .int .i64 ((l).tm).ba, .int .i64 ((l).tm).mo, .int .i64 ((l).tm).pen, .int .i64 ((l).tm).fe, .string ((l).tm).cal, .string ((l).tm).cur, .slice da (l).ds.length dk, .slice ca (l).cs.length ck])] w fun e w' => e = .returned (.bool (leftB l)) ∧ Below w.heap.size w w' := by
 have HS := Lib.hid (fun (W : World) (hW : Below w.heap.size w W) => sums_any da dk l.ds W (h.later hW))
 have HB := Lib.hid (show leftB l = (decide (l.pp ≠ P l.ds) || decide (l.pi ≠ I l.ds) || decide (l.fee ≠ 0) || decide (l.pen ≠ 0)) from rfl)
 clear h
 generalize P l.ds = p at *
 generalize I l.ds = i at *
 generalize leftB l = r at *
 have hc : (r = true ∧ l.pp ≠ p) ∨ (r = true ∧ l.pp = p ∧ l.pi ≠ i) ∨ (r = true ∧ l.pp = p ∧ l.pi = i ∧ l.fee ≠ 0) ∨ (r = true ∧ l.pp = p ∧ l.pi = i ∧ l.fee = 0 ∧ l.pen ≠ 0) ∨ (r = false ∧ l.pp = p ∧ l.pi = i ∧ l.fee = 0 ∧ l.pen = 0) := by
  rw [HB.out]
  by_cases h1 : l.pp = p <;> by_cases h2 : l.pi = i <;> by_cases h3 : l.fee = 0 <;> by_cases h4 : l.pen = 0 <;> simp [h1, h2, h3, h4]
 clear HB
 rcases hc with ⟨rfl, h1⟩ | ⟨rfl, h1, h2⟩ | ⟨rfl, h1, h2, h3⟩ | ⟨rfl, h1, h2, h3, h4⟩ | ⟨rfl, h1, h2, h3, h4⟩
 all_goals
  go_enter Tryz.func65, Tryz.ntmps65
  go_wp2_with fail
  refine (HS.out _ (by exact (Below.refl _ _).alloc (Nat.le_refl _) _)).mono ?_
  rintro e w1 ⟨rfl, hb⟩
  have hk := Bk.Blk.later (g := w.heap.size) hb (by first | with_reducible exact Bk.Blk.nw10 | with_reducible exact Bk.Blk.nw20 | with_reducible exact Bk.Blk.nw21 | with_reducible exact Bk.Blk.nw30 | with_reducible exact Bk.Blk.nw31 | with_reducible exact Bk.Blk.nw32 | with_reducible exact Bk.Blk.nw40 | with_reducible exact Bk.Blk.nw41 | with_reducible exact Bk.Blk.nw42 | with_reducible exact Bk.Blk.nw43)
  have hb1 : Below w.heap.size w w1 := bl2 hb ((Below.refl _ _).alloc (Nat.le_refl _) _)
  have c3 := hk.c3
  have c4 := hk.c4
  have c5 := hk.c5
  have c6 := hk.c6
  clear hk hb
  go_wp2_with fail
  go_ret
  exact ⟨by first | (simp; done) | (simp; assumption), hb1⟩

theorem out_any (l : Lo) (da ca : Option Addr) (dk ck : Nat) (w : World) (h : DuesIn w da l.ds) :
  Calls Tryz.prog 23 #[(.agg #[.int .i64 (l).id, .int .i64 (l).ac, .int .i64 (l).st, .int .i64 (l).pp, .int .i64 (l).pi, .int .i64 (l).fee, .int .i64 (l).pen, .int .i64 (l).chg, .int .i64 (l).prov, .int .i64 (l).loss, .int .i64 (l).rcv, .int .i64 ((l).tm).me, .int .i64 ((l).tm).pr, .int .i64 ((l).tm).ppm, .int .i64 ((l).tm).stt, .int .i64 ((l).tm).ev, .int .i64 ((l).tm).ct, .int .i64 ((l).tm).ba, .int .i64 ((l).tm).mo, .int .i64 ((l).tm).pen, .int .i64 ((l).tm).fe, .string ((l).tm).cal, .string ((l).tm).cur, .slice da (l).ds.length dk, .slice ca (l).cs.length ck])] w fun e w' => e = .returned (.int .i64 (wrap64 (P l.ds - l.pp))) ∧ Below w.heap.size w w' := by
 have HS := Lib.hid (fun (W : World) (hW : Below w.heap.size w W) => sums_any da dk l.ds W (h.later hW))
 clear h
 generalize P l.ds = p at *
 generalize I l.ds = i at *
 go_enter Tryz.func23, Tryz.ntmps23
 go_wp2_with fail
 refine (HS.out _ (by exact (Below.refl _ _).alloc (Nat.le_refl _) _)).mono ?_
 rintro e w1 ⟨rfl, hb⟩
 have hk := Bk.Blk.later (g := w.heap.size) hb (by first | with_reducible exact Bk.Blk.nw10 | with_reducible exact Bk.Blk.nw20 | with_reducible exact Bk.Blk.nw21 | with_reducible exact Bk.Blk.nw30 | with_reducible exact Bk.Blk.nw31 | with_reducible exact Bk.Blk.nw32 | with_reducible exact Bk.Blk.nw40 | with_reducible exact Bk.Blk.nw41 | with_reducible exact Bk.Blk.nw42 | with_reducible exact Bk.Blk.nw43)
 have hb1 : Below w.heap.size w w1 := bl2 hb ((Below.refl _ _).alloc (Nat.le_refl _) _)
 have c3 := hk.c3
 clear hk hb
 go_wp2_with fail
 go_ret
 exact ⟨rfl, hb1⟩

theorem ordB_step {ds : List Du} {k : Nat} (h : ∀ i, i < k → ds[i]!.no = (i : Int) + 1 ∧ (i = 0 ∨ ds[i - 1]!.day ≤ ds[i]!.day)) (hk : k < ds.length) : (ds[k]!.no = (k : Int) + 1 ∧ (k = 0 ∨ ds[k - 1]!.day ≤ ds[k]!.day) → ∀ i, i < k + 1 → ds[i]!.no = (i : Int) + 1 ∧ (i = 0 ∨ ds[i - 1]!.day ≤ ds[i]!.day)) ∧ (¬ (ds[k]!.no = (k : Int) + 1 ∧ (k = 0 ∨ ds[k - 1]!.day ≤ ds[k]!.day)) → ordB ds = false) := by
 refine ⟨fun hg i hi => ?_, fun hg => ?_⟩
 ·by_cases e : i = k
  ·subst e; exact hg
  ·exact h i (by omega)
 ·unfold ordB
  rw [List.all_eq_false]
  refine ⟨k, by simpa using hk, fun hh => hg ?_⟩
  simpa using hh
theorem ordB_all {ds : List Du} (h : ∀ i, i < ds.length → ds[i]!.no = (i : Int) + 1 ∧ (i = 0 ∨ ds[i - 1]!.day ≤ ds[i]!.day)) : ordB ds = true := by
 unfold ordB
 rw [List.all_eq_true]
 intro i hi
 have := h i (by simpa using hi)
 simpa using this
def OR (w : World) (ds : List Du) (g : Nat) (s7 : Value) (W : World) : Prop := ∃ k : Nat, k + g = ds.length ∧ s7 = .int .i64 k ∧ (∀ i, i < k → ds[i]!.no = (i : Int) + 1 ∧ (i = 0 ∨ ds[i - 1]!.day ≤ ds[i]!.day)) ∧ Below w.heap.size w W
set_option maxHeartbeats 4000000 in
theorem ord_any (a : Option Addr) (cap : Nat) (ds : List Du) (w : World) (h : DuesIn w a ds) :
  Calls Tryz.prog 67 #[.slice a ds.length cap] w fun e w' => e = .returned (.bool (ordB ds)) ∧ Below w.heap.size w w' := by
 have H := Lib.hid h
 have hn := h.1
 obtain ⟨r, hr⟩ : ∃ r, r = ordB ds := ⟨_, rfl⟩
 rw [← hr]
 have HR := Lib.hid hr
 clear h hr
 go_enter Tryz.func67, Tryz.ntmps67
 go_wp2_with fail
 go_loopg [7] ds.length (OR w ds)
 case atStart => exact ⟨0, by omega, rfl, fun i hi => by omega, Below.refl _ _⟩
 case round =>
  obtain ⟨k, hk, rfl, hg, hbr⟩ := hrel
  have hz := hbr.size
  by_cases hlt : k < ds.length
  ·have HST := Lib.hid (ordB_step hg hlt)
   obtain ⟨b, off, rfl, hc⟩ := H.out.2 (by omega)
   obtain ⟨c0, c1, c2, c3⟩ := hc k hlt
   replace c0 := cell_later hbr c0
   replace c1 := cell_later hbr c1
   replace c2 := cell_later hbr c2
   replace c3 := cell_later hbr c3
   have hcase : (¬ (ds[k]!.no = (k : Int) + 1)) ∨ (ds[k]!.no = (k : Int) + 1 ∧ k = 0) ∨ (ds[k]!.no = (k : Int) + 1 ∧ 0 < k ∧ ds[k]!.day < ds[k - 1]!.day) ∨ (ds[k]!.no = (k : Int) + 1 ∧ 0 < k ∧ ds[k - 1]!.day ≤ ds[k]!.day) := by omega
   rcases hcase with h1 | ⟨h1, h2⟩ | ⟨h1, h2, h3⟩ | ⟨h1, h2, h3⟩
   ·have HF := Lib.hid (HST.out.2 (fun h => h1 h.1))
    have g1 : (ds[k]!.no != (k : Int) + 1) = true := bne_iff_ne.2 h1
    clear hc hg h1
    generalize ds[k]! = d at *
    have hw : IntKind.i64.wrap ((k : Int) + 1) = (k : Int) + 1 := by rw [IntKind.wrap_i64]; omega
    go_wp2_with fail
    have hn := Bk.Blk.nw10 (W := wr) (cs := #[.int .i64 d.no, .int .i64 d.day, .int .i64 d.pr, .int .i64 d.it]) (t := 47)
    have hb1 : Below (wr).heap.size wr ((wr).alloc (.cells #[.int .i64 d.no, .int .i64 d.day, .int .i64 d.pr, .int .i64 d.it] 47)) := (Below.refl _ _).alloc (Nat.le_refl _) _
    generalize (wr).alloc (.cells _ 47) = w1 at *
    have b1 : Below w.heap.size w w1 := bl2 hb1 Bk.be
    have z1 := b1.size
    repeat (rename Bk.Blk wr _ _ _ => hq; (first | (have hq' := Bk.Blk.carry hq hb1 (by (repeat (first | with_reducible refine Bk.Blk.drew ?_ | with_reducible refine Bk.Blk.set_same ?_ | with_reducible refine Bk.Blk.set_ne ?_ (by omega) | with_reducible refine Bk.Blk.alloc ?_)); (with_reducible exact hq))) | (have hq' := Bk.Blk.later hb1 (Bk.Blk.set2 hq)) | skip); clear hq)
    try (have hn := Bk.nx ((wr).heap.size) hb1)
    try (have hn := Bk.nx ((wr).heap.size + 1) hb1)
    try (have hn := Bk.nx ((wr).heap.size + 2) hb1)
    try (have hn := Bk.nx ((wr).heap.size + 3) hb1)
    clear hb1
    repeat (rename World.cell? wr _ = _ => hq; clear hq)
    repeat (rename World.frozen? wr _ = _ => hq; clear hq)
    repeat (rename Bk.Blk w1 _ _ _ => hq; (first | (have _k0 := (hq).c0; have _m0 := (hq).f0) | skip); (first | (have _k1 := (hq).c1; have _m1 := (hq).f1) | skip); (first | (have _k2 := (hq).c2; have _m2 := (hq).f2) | skip); (first | (have _k3 := (hq).c3; have _m3 := (hq).f3) | skip); have _z := (hq).lt; have hk := Bk.Kept.mk hq; clear hq)
    repeat (rename Bk.Kept (Bk.Blk w1 _ _ _) => hq; have hq' := hq.out; clear hq)
    repeat (rename Bk.Blk w1 _ _ _ => hq; (first | (have _q0 := (hq).q0) | skip); (first | (have _q1 := (hq).q1) | skip); (first | (have _q2 := (hq).q2) | skip); (first | (have _q3 := (hq).q3) | skip); have hk := Bk.Kept.mk hq; clear hq)
    repeat (rename Bk.Kept (Bk.Blk w1 _ _ _) => hq; have hq' := hq.out; clear hq)
    repeat (rename Bk.Cel w1 _ _ => hq; have _q0 := (hq).q; have hk := Bk.Kept.mk hq; clear hq)
    repeat (rename Bk.Kept (Bk.Cel w1 _ _) => hq; have hq' := hq.out; clear hq)
    refine Reg.region_quiet (by kernel_rfl) (by kernel_rfl) ?_
    iterate 20 (first | go_big_quiet_skip | (go_big_quiet_want; (first | (go_big_quiet_op; go_big_quiet_on) | (apply Reg.quiet_run; (intro W hW; skip; go_simp; (first | done | rfl | exact ⟨rfl, rfl⟩ )); (simp only [Act.put, List.setIfInBounds_toArray, List.set_cons_zero, List.set_cons_succ]; go_big_quiet_on)) | (apply Reg.quiet_call; (intro W hW; go_simp; (first | done | rfl | exact ⟨rfl, rfl⟩)); (intro W hW; (first | fail)); (simp only [Act.put, List.setIfInBounds_toArray, List.set_cons_zero, List.set_cons_succ]; go_big_quiet_on)))))
    repeat (rename ∀ W', Reg.Cls w1 W' → _ => hq; clear hq)
    refine wpQuiet_nil ?_
    intro w2 hW
    have hb2 : Below (w1).heap.size w1 w2 := hW
    clear hW
    have b2 : Below w.heap.size w w2 := bl2 hb2 Bk.be
    have z2 := b2.size
    repeat (rename Bk.Blk w1 _ _ _ => hq; (first | (have hq' := Bk.Blk.carry hq hb2 (by (repeat (first | with_reducible refine Bk.Blk.drew ?_ | with_reducible refine Bk.Blk.set_same ?_ | with_reducible refine Bk.Blk.set_ne ?_ (by omega) | with_reducible refine Bk.Blk.alloc ?_)); (with_reducible exact hq))) | (have hq' := Bk.Blk.later hb2 (Bk.Blk.set2 hq)) | skip); clear hq)
    try (have hn := Bk.nx ((w1).heap.size) hb2)
    try (have hn := Bk.nx ((w1).heap.size + 1) hb2)
    try (have hn := Bk.nx ((w1).heap.size + 2) hb2)
    try (have hn := Bk.nx ((w1).heap.size + 3) hb2)
    clear hb2
    repeat (rename World.cell? w1 _ = _ => hq; clear hq)
    repeat (rename World.frozen? w1 _ = _ => hq; clear hq)
    repeat (rename Bk.Blk w2 _ _ _ => hq; (first | (have _k0 := (hq).c0; have _m0 := (hq).f0) | skip); (first | (have _k1 := (hq).c1; have _m1 := (hq).f1) | skip); (first | (have _k2 := (hq).c2; have _m2 := (hq).f2) | skip); (first | (have _k3 := (hq).c3; have _m3 := (hq).f3) | skip); have _z := (hq).lt; have hk := Bk.Kept.mk hq; clear hq)
    repeat (rename Bk.Kept (Bk.Blk w2 _ _ _) => hq; have hq' := hq.out; clear hq)
    go_wp2_with fail
    go_ret
    exact ⟨by rw [HR.out, HF.out]; rfl, b2⟩
   ·have HG := Lib.hid (HST.out.1 ⟨h1, .inl h2⟩)
    subst h2
    rw [Nat.zero_mul, Nat.add_zero] at c0 c1 c2 c3
    have g1 : (ds[0]!.no != 1) = false := by rw [h1]; rfl
    clear hc hg h1
    generalize ds[0]! = d at *
    have hw : IntKind.i64.wrap (0 + 1) = 1 := by decide
    have hw2 : IntKind.i64.wrap 1 = 1 := by decide
    go_wp2_with fail
    have hn := Bk.Blk.nw10 (W := wr) (cs := #[.int .i64 d.no, .int .i64 d.day, .int .i64 d.pr, .int .i64 d.it]) (t := 47)
    have hb1 : Below (wr).heap.size wr ((wr).alloc (.cells #[.int .i64 d.no, .int .i64 d.day, .int .i64 d.pr, .int .i64 d.it] 47)) := (Below.refl _ _).alloc (Nat.le_refl _) _
    generalize (wr).alloc (.cells _ 47) = w1 at *
    have b1 : Below w.heap.size w w1 := bl2 hb1 Bk.be
    have z1 := b1.size
    repeat (rename Bk.Blk wr _ _ _ => hq; (first | (have hq' := Bk.Blk.carry hq hb1 (by (repeat (first | with_reducible refine Bk.Blk.drew ?_ | with_reducible refine Bk.Blk.set_same ?_ | with_reducible refine Bk.Blk.set_ne ?_ (by omega) | with_reducible refine Bk.Blk.alloc ?_)); (with_reducible exact hq))) | (have hq' := Bk.Blk.later hb1 (Bk.Blk.set2 hq)) | skip); clear hq)
    try (have hn := Bk.nx ((wr).heap.size) hb1)
    try (have hn := Bk.nx ((wr).heap.size + 1) hb1)
    try (have hn := Bk.nx ((wr).heap.size + 2) hb1)
    try (have hn := Bk.nx ((wr).heap.size + 3) hb1)
    clear hb1
    repeat (rename World.cell? wr _ = _ => hq; clear hq)
    repeat (rename World.frozen? wr _ = _ => hq; clear hq)
    repeat (rename Bk.Blk w1 _ _ _ => hq; (first | (have _k0 := (hq).c0; have _m0 := (hq).f0) | skip); (first | (have _k1 := (hq).c1; have _m1 := (hq).f1) | skip); (first | (have _k2 := (hq).c2; have _m2 := (hq).f2) | skip); (first | (have _k3 := (hq).c3; have _m3 := (hq).f3) | skip); have _z := (hq).lt; have hk := Bk.Kept.mk hq; clear hq)
    repeat (rename Bk.Kept (Bk.Blk w1 _ _ _) => hq; have hq' := hq.out; clear hq)
    repeat (rename Bk.Blk w1 _ _ _ => hq; (first | (have _q0 := (hq).q0) | skip); (first | (have _q1 := (hq).q1) | skip); (first | (have _q2 := (hq).q2) | skip); (first | (have _q3 := (hq).q3) | skip); have hk := Bk.Kept.mk hq; clear hq)
    repeat (rename Bk.Kept (Bk.Blk w1 _ _ _) => hq; have hq' := hq.out; clear hq)
    repeat (rename Bk.Cel w1 _ _ => hq; have _q0 := (hq).q; have hk := Bk.Kept.mk hq; clear hq)
    repeat (rename Bk.Kept (Bk.Cel w1 _ _) => hq; have hq' := hq.out; clear hq)
    refine Reg.region_quiet (by kernel_rfl) (by kernel_rfl) ?_
    iterate 20 (first | go_big_quiet_skip | (go_big_quiet_want; (first | (go_big_quiet_op; go_big_quiet_on) | (apply Reg.quiet_run; (intro W hW; skip; go_simp; (first | done | rfl | exact ⟨rfl, rfl⟩ )); (simp only [Act.put, List.setIfInBounds_toArray, List.set_cons_zero, List.set_cons_succ]; go_big_quiet_on)) | (apply Reg.quiet_call; (intro W hW; go_simp; (first | done | rfl | exact ⟨rfl, rfl⟩)); (intro W hW; (first | fail)); (simp only [Act.put, List.setIfInBounds_toArray, List.set_cons_zero, List.set_cons_succ]; go_big_quiet_on)))))
    repeat (rename ∀ W', Reg.Cls w1 W' → _ => hq; clear hq)
    refine wpQuiet_nil ?_
    intro w2 hW
    have hb2 : Below (w1).heap.size w1 w2 := hW
    clear hW
    have b2 : Below w.heap.size w w2 := bl2 hb2 Bk.be
    have z2 := b2.size
    repeat (rename Bk.Blk w1 _ _ _ => hq; (first | (have hq' := Bk.Blk.carry hq hb2 (by (repeat (first | with_reducible refine Bk.Blk.drew ?_ | with_reducible refine Bk.Blk.set_same ?_ | with_reducible refine Bk.Blk.set_ne ?_ (by omega) | with_reducible refine Bk.Blk.alloc ?_)); (with_reducible exact hq))) | (have hq' := Bk.Blk.later hb2 (Bk.Blk.set2 hq)) | skip); clear hq)
    try (have hn := Bk.nx ((w1).heap.size) hb2)
    try (have hn := Bk.nx ((w1).heap.size + 1) hb2)
    try (have hn := Bk.nx ((w1).heap.size + 2) hb2)
    try (have hn := Bk.nx ((w1).heap.size + 3) hb2)
    clear hb2
    repeat (rename World.cell? w1 _ = _ => hq; clear hq)
    repeat (rename World.frozen? w1 _ = _ => hq; clear hq)
    repeat (rename Bk.Blk w2 _ _ _ => hq; (first | (have _k0 := (hq).c0; have _m0 := (hq).f0) | skip); (first | (have _k1 := (hq).c1; have _m1 := (hq).f1) | skip); (first | (have _k2 := (hq).c2; have _m2 := (hq).f2) | skip); (first | (have _k3 := (hq).c3; have _m3 := (hq).f3) | skip); have _z := (hq).lt; have hk := Bk.Kept.mk hq; clear hq)
    repeat (rename Bk.Kept (Bk.Blk w2 _ _ _) => hq; have hq' := hq.out; clear hq)
    go_wp2_with fail
    go_roundg (gk - 1)
    case measure => omega
    case rel => exact ⟨1, by omega, by go_num, HG.out, b2⟩
   ·obtain ⟨m, rfl⟩ : ∃ m, k = m + 1 := ⟨k - 1, by omega⟩
    rw [show m + 1 - 1 = m by omega] at h3 HST
    have cq := (hc m (by omega)).2.1
    have HF := Lib.hid (HST.out.2 (fun h => by rcases h.2 with h | h <;> omega))
    have g1 : (ds[m + 1]!.no != (m : Int) + 1 + 1) = false := by rw [h1]; exact (bne_self_eq_false _)
    clear hc hg h1 HST
    generalize ds[m + 1]! = d at *
    generalize ds[m]!.day = pd at *
    have hw : IntKind.i64.wrap ((m : Int) + 1 + 1) = (m : Int) + 1 + 1 := by rw [IntKind.wrap_i64]; omega
    have hw2 : IntKind.i64.wrap ((m : Int) + 1 - 1) = (m : Int) := by rw [IntKind.wrap_i64]; omega
    have hw3 : IntKind.i64.wrap (m : Int) = (m : Int) := by rw [IntKind.wrap_i64]; omega
    have hml : m < ds.length := by omega
    go_wp2_with fail
    have hn := Bk.Blk.nw10 (W := wr) (cs := #[.int .i64 d.no, .int .i64 d.day, .int .i64 d.pr, .int .i64 d.it]) (t := 47)
    have hb1 : Below (wr).heap.size wr ((wr).alloc (.cells #[.int .i64 d.no, .int .i64 d.day, .int .i64 d.pr, .int .i64 d.it] 47)) := (Below.refl _ _).alloc (Nat.le_refl _) _
    generalize (wr).alloc (.cells _ 47) = w1 at *
    have b1 : Below w.heap.size w w1 := bl2 hb1 Bk.be
    have z1 := b1.size
    repeat (rename Bk.Blk wr _ _ _ => hq; (first | (have hq' := Bk.Blk.carry hq hb1 (by (repeat (first | with_reducible refine Bk.Blk.drew ?_ | with_reducible refine Bk.Blk.set_same ?_ | with_reducible refine Bk.Blk.set_ne ?_ (by omega) | with_reducible refine Bk.Blk.alloc ?_)); (with_reducible exact hq))) | (have hq' := Bk.Blk.later hb1 (Bk.Blk.set2 hq)) | skip); clear hq)
    try (have hn := Bk.nx ((wr).heap.size) hb1)
    try (have hn := Bk.nx ((wr).heap.size + 1) hb1)
    try (have hn := Bk.nx ((wr).heap.size + 2) hb1)
    try (have hn := Bk.nx ((wr).heap.size + 3) hb1)
    clear hb1
    repeat (rename World.cell? wr _ = _ => hq; clear hq)
    repeat (rename World.frozen? wr _ = _ => hq; clear hq)
    repeat (rename Bk.Blk w1 _ _ _ => hq; (first | (have _k0 := (hq).c0; have _m0 := (hq).f0) | skip); (first | (have _k1 := (hq).c1; have _m1 := (hq).f1) | skip); (first | (have _k2 := (hq).c2; have _m2 := (hq).f2) | skip); (first | (have _k3 := (hq).c3; have _m3 := (hq).f3) | skip); have _z := (hq).lt; have hk := Bk.Kept.mk hq; clear hq)
    repeat (rename Bk.Kept (Bk.Blk w1 _ _ _) => hq; have hq' := hq.out; clear hq)
    have cq1 := Bk.Cel.mk (cell_later b1 cq)
    clear cq
    repeat (rename Bk.Blk w1 _ _ _ => hq; (first | (have _q0 := (hq).q0) | skip); (first | (have _q1 := (hq).q1) | skip); (first | (have _q2 := (hq).q2) | skip); (first | (have _q3 := (hq).q3) | skip); have hk := Bk.Kept.mk hq; clear hq)
    repeat (rename Bk.Kept (Bk.Blk w1 _ _ _) => hq; have hq' := hq.out; clear hq)
    repeat (rename Bk.Cel w1 _ _ => hq; have _q0 := (hq).q; have hk := Bk.Kept.mk hq; clear hq)
    repeat (rename Bk.Kept (Bk.Cel w1 _ _) => hq; have hq' := hq.out; clear hq)
    refine Reg.region_quiet (by kernel_rfl) (by kernel_rfl) ?_
    iterate 20 (first | go_big_quiet_skip | (go_big_quiet_want; (first | (go_big_quiet_op; go_big_quiet_on) | (apply Reg.quiet_run; (intro W hW; skip; go_simp; (first | done | rfl | exact ⟨rfl, rfl⟩ )); (simp only [Act.put, List.setIfInBounds_toArray, List.set_cons_zero, List.set_cons_succ]; go_big_quiet_on)) | (apply Reg.quiet_call; (intro W hW; go_simp; (first | done | rfl | exact ⟨rfl, rfl⟩)); (intro W hW; (first | fail)); (simp only [Act.put, List.setIfInBounds_toArray, List.set_cons_zero, List.set_cons_succ]; go_big_quiet_on)))))
    repeat (rename ∀ W', Reg.Cls w1 W' → _ => hq; clear hq)
    refine wpQuiet_nil ?_
    intro w2 hW
    have hb2 : Below (w1).heap.size w1 w2 := hW
    clear hW
    have b2 : Below w.heap.size w w2 := bl2 hb2 Bk.be
    have z2 := b2.size
    repeat (rename Bk.Blk w1 _ _ _ => hq; (first | (have hq' := Bk.Blk.carry hq hb2 (by (repeat (first | with_reducible refine Bk.Blk.drew ?_ | with_reducible refine Bk.Blk.set_same ?_ | with_reducible refine Bk.Blk.set_ne ?_ (by omega) | with_reducible refine Bk.Blk.alloc ?_)); (with_reducible exact hq))) | (have hq' := Bk.Blk.later hb2 (Bk.Blk.set2 hq)) | skip); clear hq)
    try (have hn := Bk.nx ((w1).heap.size) hb2)
    try (have hn := Bk.nx ((w1).heap.size + 1) hb2)
    try (have hn := Bk.nx ((w1).heap.size + 2) hb2)
    try (have hn := Bk.nx ((w1).heap.size + 3) hb2)
    clear hb2
    repeat (rename World.cell? w1 _ = _ => hq; clear hq)
    repeat (rename World.frozen? w1 _ = _ => hq; clear hq)
    repeat (rename Bk.Blk w2 _ _ _ => hq; (first | (have _k0 := (hq).c0; have _m0 := (hq).f0) | skip); (first | (have _k1 := (hq).c1; have _m1 := (hq).f1) | skip); (first | (have _k2 := (hq).c2; have _m2 := (hq).f2) | skip); (first | (have _k3 := (hq).c3; have _m3 := (hq).f3) | skip); have _z := (hq).lt; have hk := Bk.Kept.mk hq; clear hq)
    repeat (rename Bk.Kept (Bk.Blk w2 _ _ _) => hq; have hq' := hq.out; clear hq)
    go_wp2_with fail
    go_ret
    exact ⟨by rw [HR.out, HF.out]; rfl, b2⟩
   ·obtain ⟨m, rfl⟩ : ∃ m, k = m + 1 := ⟨k - 1, by omega⟩
    rw [show m + 1 - 1 = m by omega] at h3 HST
    have cq := (hc m (by omega)).2.1
    have HG := Lib.hid (HST.out.1 ⟨h1, .inr h3⟩)
    have g1 : (ds[m + 1]!.no != (m : Int) + 1 + 1) = false := by rw [h1]; exact (bne_self_eq_false _)
    clear hc hg h1 HST
    generalize ds[m + 1]! = d at *
    generalize ds[m]!.day = pd at *
    have hw : IntKind.i64.wrap ((m : Int) + 1 + 1) = (m : Int) + 1 + 1 := by rw [IntKind.wrap_i64]; omega
    have hw2 : IntKind.i64.wrap ((m : Int) + 1 - 1) = (m : Int) := by rw [IntKind.wrap_i64]; omega
    have hw3 : IntKind.i64.wrap (m : Int) = (m : Int) := by rw [IntKind.wrap_i64]; omega
    have hml : m < ds.length := by omega
    go_wp2_with fail
    have hn := Bk.Blk.nw10 (W := wr) (cs := #[.int .i64 d.no, .int .i64 d.day, .int .i64 d.pr, .int .i64 d.it]) (t := 47)
    have hb1 : Below (wr).heap.size wr ((wr).alloc (.cells #[.int .i64 d.no, .int .i64 d.day, .int .i64 d.pr, .int .i64 d.it] 47)) := (Below.refl _ _).alloc (Nat.le_refl _) _
    generalize (wr).alloc (.cells _ 47) = w1 at *
    have b1 : Below w.heap.size w w1 := bl2 hb1 Bk.be
    have z1 := b1.size
    repeat (rename Bk.Blk wr _ _ _ => hq; (first | (have hq' := Bk.Blk.carry hq hb1 (by (repeat (first | with_reducible refine Bk.Blk.drew ?_ | with_reducible refine Bk.Blk.set_same ?_ | with_reducible refine Bk.Blk.set_ne ?_ (by omega) | with_reducible refine Bk.Blk.alloc ?_)); (with_reducible exact hq))) | (have hq' := Bk.Blk.later hb1 (Bk.Blk.set2 hq)) | skip); clear hq)
    try (have hn := Bk.nx ((wr).heap.size) hb1)
    try (have hn := Bk.nx ((wr).heap.size + 1) hb1)
    try (have hn := Bk.nx ((wr).heap.size + 2) hb1)
    try (have hn := Bk.nx ((wr).heap.size + 3) hb1)
    clear hb1
    repeat (rename World.cell? wr _ = _ => hq; clear hq)
    repeat (rename World.frozen? wr _ = _ => hq; clear hq)
    repeat (rename Bk.Blk w1 _ _ _ => hq; (first | (have _k0 := (hq).c0; have _m0 := (hq).f0) | skip); (first | (have _k1 := (hq).c1; have _m1 := (hq).f1) | skip); (first | (have _k2 := (hq).c2; have _m2 := (hq).f2) | skip); (first | (have _k3 := (hq).c3; have _m3 := (hq).f3) | skip); have _z := (hq).lt; have hk := Bk.Kept.mk hq; clear hq)
    repeat (rename Bk.Kept (Bk.Blk w1 _ _ _) => hq; have hq' := hq.out; clear hq)
    have cq1 := Bk.Cel.mk (cell_later b1 cq)
    clear cq
    repeat (rename Bk.Blk w1 _ _ _ => hq; (first | (have _q0 := (hq).q0) | skip); (first | (have _q1 := (hq).q1) | skip); (first | (have _q2 := (hq).q2) | skip); (first | (have _q3 := (hq).q3) | skip); have hk := Bk.Kept.mk hq; clear hq)
    repeat (rename Bk.Kept (Bk.Blk w1 _ _ _) => hq; have hq' := hq.out; clear hq)
    repeat (rename Bk.Cel w1 _ _ => hq; have _q0 := (hq).q; have hk := Bk.Kept.mk hq; clear hq)
    repeat (rename Bk.Kept (Bk.Cel w1 _ _) => hq; have hq' := hq.out; clear hq)
    refine Reg.region_quiet (by kernel_rfl) (by kernel_rfl) ?_
    iterate 20 (first | go_big_quiet_skip | (go_big_quiet_want; (first | (go_big_quiet_op; go_big_quiet_on) | (apply Reg.quiet_run; (intro W hW; skip; go_simp; (first | done | rfl | exact ⟨rfl, rfl⟩ )); (simp only [Act.put, List.setIfInBounds_toArray, List.set_cons_zero, List.set_cons_succ]; go_big_quiet_on)) | (apply Reg.quiet_call; (intro W hW; go_simp; (first | done | rfl | exact ⟨rfl, rfl⟩)); (intro W hW; (first | fail)); (simp only [Act.put, List.setIfInBounds_toArray, List.set_cons_zero, List.set_cons_succ]; go_big_quiet_on)))))
    repeat (rename ∀ W', Reg.Cls w1 W' → _ => hq; clear hq)
    refine wpQuiet_nil ?_
    intro w2 hW
    have hb2 : Below (w1).heap.size w1 w2 := hW
    clear hW
    have b2 : Below w.heap.size w w2 := bl2 hb2 Bk.be
    have z2 := b2.size
    repeat (rename Bk.Blk w1 _ _ _ => hq; (first | (have hq' := Bk.Blk.carry hq hb2 (by (repeat (first | with_reducible refine Bk.Blk.drew ?_ | with_reducible refine Bk.Blk.set_same ?_ | with_reducible refine Bk.Blk.set_ne ?_ (by omega) | with_reducible refine Bk.Blk.alloc ?_)); (with_reducible exact hq))) | (have hq' := Bk.Blk.later hb2 (Bk.Blk.set2 hq)) | skip); clear hq)
    try (have hn := Bk.nx ((w1).heap.size) hb2)
    try (have hn := Bk.nx ((w1).heap.size + 1) hb2)
    try (have hn := Bk.nx ((w1).heap.size + 2) hb2)
    try (have hn := Bk.nx ((w1).heap.size + 3) hb2)
    clear hb2
    repeat (rename World.cell? w1 _ = _ => hq; clear hq)
    repeat (rename World.frozen? w1 _ = _ => hq; clear hq)
    repeat (rename Bk.Blk w2 _ _ _ => hq; (first | (have _k0 := (hq).c0; have _m0 := (hq).f0) | skip); (first | (have _k1 := (hq).c1; have _m1 := (hq).f1) | skip); (first | (have _k2 := (hq).c2; have _m2 := (hq).f2) | skip); (first | (have _k3 := (hq).c3; have _m3 := (hq).f3) | skip); have _z := (hq).lt; have hk := Bk.Kept.mk hq; clear hq)
    repeat (rename Bk.Kept (Bk.Blk w2 _ _ _) => hq; have hq' := hq.out; clear hq)
    go_wp2_with fail
    go_roundg (gk - 1)
    case measure => omega
    case rel => exact ⟨m + 2, by omega, by go_num, HG.out, b2⟩
  ·have HT := Lib.hid (ordB_all (ds := ds) (fun i hi => hg i (by omega)))
   clear hg
   go_wp2_with fail
   go_ret
   exact ⟨by rw [HR.out, HT.out]; rfl, hbr⟩
end Go.Proofs.YtlolflephnbbcaaGreatDoor.Ln

namespace Go.Proofs.YtlolflephnbbcaaGreatDoor.Ln
open Go.RowKit
open Go.Proofs.YtlolflephnbbcaaGreatDoor

def dv (d : Du) : Value := .agg #[.int .i64 d.no, .int .i64 d.day, .int .i64 d.pr, .int .i64 d.it]
def Idx {α : Type} [Inhabited α] (p : α → Bool) (l : List α) (r : Int) : Prop := (r = -1 ∧ ∀ j, j < l.length → p l[j]! = false) ∨ ∃ k : Nat, k < l.length ∧ r = k ∧ p l[k]! = true ∧ ∀ j, j < k → p l[j]! = false
def Pred (g : Nat) (lb : Array Value) (p : Du → Bool) (w : World) : Prop := ∀ (d : Du) (W : World), Below w.heap.size w W → Calls Tryz.prog g (#[dv d] ++ lb) W fun e w' => e = .returned (.bool (p d)) ∧ Below W.heap.size W w'
def XR (w : World) (p : Du → Bool) (ds : List Du) (g : Nat) (s8 : Value) (W : World) : Prop := ∃ k : Nat, k + g = ds.length ∧ s8 = .int .i64 k ∧ (∀ j, j < k → p ds[j]! = false) ∧ Below w.heap.size w W
set_option maxHeartbeats 2000000 in
theorem ixd_any (g : Nat) (lb : Array Value) (p : Du → Bool) (a : Option Addr) (cap : Nat) (ds : List Du) (w : World) (h : DuesIn w a ds) (eg : ∀ args w, (callFunc g args).run Tryz.prog w = .ok (.enter g args) w) (hp : Pred g lb p w) :
  Calls Tryz.prog 153 #[.slice a ds.length cap, .func (.func g) #[] lb] w fun e w' => ∃ r, e = .returned (.int .i64 r) ∧ Idx p ds r ∧ Below w.heap.size w w' := by
 have H := Lib.hid h
 have HP := Lib.hid hp
 have hn := h.1
 clear h hp
 go_enter Tryz.func153, Tryz.ntmps153
 go_wp2_with fail
 go_loopg [8] ds.length (XR w p ds)
 case atStart => exact ⟨0, by omega, rfl, fun j hj => by omega, Below.refl _ _⟩
 case round =>
  obtain ⟨k, hk, rfl, hall, hbr⟩ := hrel
  have HA := Lib.hid hall
  clear hall
  by_cases hlt : k < ds.length
  ·obtain ⟨b, off, rfl, hc⟩ := H.out.2 (by omega)
   obtain ⟨c0, c1, c2, c3⟩ := hc k hlt
   replace c0 := cell_later hbr c0
   replace c1 := cell_later hbr c1
   replace c2 := cell_later hbr c2
   replace c3 := cell_later hbr c3
   have hcall := HP.out ds[k]! wr hbr
   unfold dv at hcall
   generalize hd : ds[k]! = d at *
   have HD := Lib.hid hd
   clear hc hd
   cases hv : p d
   ·rw [hv] at hcall
    have HV := Lib.hid hv
    clear hv
    go_wp2_with fail
    refine hcall.mono ?_
    rintro e w1 ⟨rfl, hb⟩
    go_wp2_with fail
    go_roundg (gk - 1)
    case measure => omega
    case rel => exact ⟨k + 1, by omega, by go_num, fun j hj => by
     by_cases e : j = k
     ·subst e; rw [HD.out]; exact HV.out
     ·exact HA.out j (by omega), bl2 hb hbr⟩
   ·rw [hv] at hcall
    have HV := Lib.hid hv
    clear hv
    go_wp2_with fail
    refine hcall.mono ?_
    rintro e w1 ⟨rfl, hb⟩
    go_wp2_with fail
    go_ret
    exact ⟨k, rfl, .inr ⟨k, hlt, rfl, by rw [HD.out]; exact HV.out, HA.out⟩, bl2 hb hbr⟩
  ·go_wp2_with fail
   go_ret
   exact ⟨-1, rfl, .inl ⟨rfl, fun j hj => HA.out j (by omega)⟩, hbr⟩
theorem any_idx {p : Du → Bool} {ds : List Du} {r : Int} (h : Idx p ds r) : (0 ≤ r ∧ ds.any p = true) ∨ (r < 0 ∧ ds.any p = false) := by
 rcases h with ⟨rfl, h⟩ | ⟨k, hk, rfl, h1, _⟩
 ·refine .inr ⟨by omega, ?_⟩
  rw [List.any_eq_false]
  intro x hx
  obtain ⟨j, hj, rfl⟩ := List.mem_iff_getElem.1 hx
  have := h j hj
  rw [getElem!_pos ds j hj] at this
  simp [this]
 ·refine .inl ⟨by omega, List.any_eq_true.2 ⟨ds[k], List.getElem_mem hk, ?_⟩⟩
  rw [getElem!_pos ds k hk] at h1
  exact h1
theorem contd_any (g : Nat) (lb : Array Value) (p : Du → Bool) (a : Option Addr) (cap : Nat) (ds : List Du) (w : World) (h : DuesIn w a ds) (eg : ∀ args w, (callFunc g args).run Tryz.prog w = .ok (.enter g args) w) (hp : Pred g lb p w) :
  Calls Tryz.prog 107 #[.slice a ds.length cap, .func (.func g) #[] lb] w fun e w' => e = .returned (.bool (ds.any p)) ∧ Below w.heap.size w w' := by
 have HC := Lib.hid (ixd_any g lb p a cap ds w h eg hp)
 clear h hp
 go_enter Tryz.func107, Tryz.ntmps107
 go_wp2_with fail
 refine (HC.out).mono ?_
 rintro e w1 ⟨r, rfl, hr, hb⟩
 rcases any_idx hr with ⟨h1, h2⟩ | ⟨h1, h2⟩
 ·have H2 := Lib.hid h2
  clear h2 hr
  go_wp2_with fail
  go_ret
  exact ⟨by rw [H2.out]; first | rfl | (simp; omega), hb⟩
 ·have H2 := Lib.hid h2
  clear h2 hr
  go_wp2_with fail
  go_ret
  exact ⟨by rw [H2.out]; first | rfl | (simp; omega), hb⟩
theorem nums1_any (w : World) : Pred 108 #[] (fun d => !dueB d) w := by
 intro d W _
 have H1 := Lib.hid (fun (n : Int) (W : World) => day_any n W)
 have H2 := Lib.hid (fun (n : Int) (W : World) => amount_any n W)
 show Calls Tryz.prog 108 #[.agg #[.int .i64 d.no, .int .i64 d.day, .int .i64 d.pr, .int .i64 d.it]] W _
 cases h1 : dayB d.day
 ·have HV := Lib.hid h1
  clear h1
  go_enter Tryz.func108, Tryz.ntmps108
  go_wp2_with fail
  refine (H1.out _ _).mono ?_
  rintro e w1 ⟨rfl, rfl⟩
  rw [HV.out]
  go_wp2_with fail
  go_ret
  exact ⟨by show _ = Ending.returned (Value.bool !(dayB d.day && amt d.pr && amt d.it)); rw [HV.out]; rfl, (Below.refl _ _).alloc (Nat.le_refl _) _⟩
 ·cases h2 : amt d.pr
  ·have HV := Lib.hid h1
   have HW := Lib.hid h2
   clear h1 h2
   go_enter Tryz.func108, Tryz.ntmps108
   go_wp2_with fail
   refine (H1.out _ _).mono ?_
   rintro e w1 ⟨rfl, rfl⟩
   rw [HV.out]
   go_wp2_with fail
   refine (H2.out _ _).mono ?_
   rintro e w1 ⟨rfl, rfl⟩
   rw [HW.out]
   go_wp2_with fail
   go_ret
   exact ⟨by show _ = Ending.returned (Value.bool !(dayB d.day && amt d.pr && amt d.it)); rw [HV.out, HW.out]; rfl, (Below.refl _ _).alloc (Nat.le_refl _) _⟩
  ·have HV := Lib.hid h1
   have HW := Lib.hid h2
   clear h1 h2
   go_enter Tryz.func108, Tryz.ntmps108
   go_wp2_with fail
   refine (H1.out _ _).mono ?_
   rintro e w1 ⟨rfl, rfl⟩
   rw [HV.out]
   go_wp2_with fail
   refine (H2.out _ _).mono ?_
   rintro e w1 ⟨rfl, rfl⟩
   rw [HW.out]
   go_wp2_with fail
   refine (H2.out _ _).mono ?_
   rintro e w1 ⟨rfl, rfl⟩
   generalize hv : amt d.it = v
   have HX := Lib.hid hv
   clear hv
   go_wp2_with fail
   go_ret
   exact ⟨by show _ = Ending.returned (Value.bool !(dayB d.day && amt d.pr && amt d.it)); rw [HV.out, HW.out, HX.out]; simp, (Below.refl _ _).alloc (Nat.le_refl _) _⟩

theorem rg_no {l : Lo} (h : rangedB l = true) : 1 ≤ l.id ∧ 1000 ≤ l.ac ∧ 1 ≤ l.st ∧ l.st ≤ 3 ∧ 0 ≤ l.pp ∧ 0 ≤ l.pi ∧ 0 ≤ l.rcv ∧ dayB l.chg = true ∧ rateB l.tm.pen = true ∧ rateB l.tm.fe = true ∧ 1 ≤ l.ds.length ∧ l.ds.length ≤ 240 ∧ l.cs.length ≤ 64 ∧ amt l.fee = true ∧ amt l.pen = true ∧ amt l.prov = true ∧ amt l.loss = true ∧ l.ds.all dueB = true := by
 simp only [rangedB, Bool.and_eq_true, decide_eq_true_eq] at h
 obtain ⟨⟨⟨⟨⟨⟨⟨⟨⟨⟨⟨⟨⟨⟨⟨⟨⟨a1, a2⟩, a3⟩, a4⟩, a5⟩, a6⟩, a7⟩, a8⟩, a9⟩, b1⟩, b2⟩, b3⟩, b4⟩, b5⟩, b6⟩, b7⟩, b8⟩, b9⟩ := h
 exact ⟨a1, a2, a3, a4, a5, a6, a7, a8, a9, b1, b2, b3, b4, b5, b6, b7, b8, b9⟩
theorem rg_yes {l : Lo} (h : 1 ≤ l.id ∧ 1000 ≤ l.ac ∧ 1 ≤ l.st ∧ l.st ≤ 3 ∧ 0 ≤ l.pp ∧ 0 ≤ l.pi ∧ 0 ≤ l.rcv ∧ dayB l.chg = true ∧ rateB l.tm.pen = true ∧ rateB l.tm.fe = true ∧ 1 ≤ l.ds.length ∧ l.ds.length ≤ 240 ∧ l.cs.length ≤ 64 ∧ amt l.fee = true ∧ amt l.pen = true ∧ amt l.prov = true ∧ amt l.loss = true ∧ l.ds.all dueB = true) : rangedB l = true := by
 obtain ⟨a1, a2, a3, a4, a5, a6, a7, a8, a9, b1, b2, b3, b4, b5, b6, b7, b8, b9⟩ := h
 simp only [rangedB, Bool.and_eq_true, decide_eq_true_eq]
 exact ⟨⟨⟨⟨⟨⟨⟨⟨⟨⟨⟨⟨⟨⟨⟨⟨⟨a1, a2⟩, a3⟩, a4⟩, a5⟩, a6⟩, a7⟩, a8⟩, a9⟩, b1⟩, b2⟩, b3⟩, b4⟩, b5⟩, b6⟩, b7⟩, b8⟩, b9⟩
theorem rg_bad {l : Lo} (h : ¬ (rangedB l = true)) : rangedB l = false := by cases hv : rangedB l <;> simp_all
def am4 (l : Lo) : List Int := [l.fee, l.pen, l.prov, l.loss]
theorem all_not {ds : List Du} : ds.any (fun d => !dueB d) = !ds.all dueB := by
 induction ds with
 | nil => rfl
 | cons d l ih => simp only [List.any_cons, List.all_cons, ih, Bool.not_and]
theorem ix4_0 (a b c d : Value) (W : World) : (Instr.index 103 (.agg #[a, b, c, d]) (.int .i64 0)).run Tryz.prog W = .ok a W := by
 simp [Instr.index, run_underlying Tryz.underlying103, asIntOf, go_sem]
theorem ix4_1 (a b c d : Value) (W : World) : (Instr.index 103 (.agg #[a, b, c, d]) (.int .i64 1)).run Tryz.prog W = .ok b W := by
 simp [Instr.index, run_underlying Tryz.underlying103, asIntOf, go_sem]
theorem ix4_2 (a b c d : Value) (W : World) : (Instr.index 103 (.agg #[a, b, c, d]) (.int .i64 2)).run Tryz.prog W = .ok c W := by
 simp [Instr.index, run_underlying Tryz.underlying103, asIntOf, go_sem]
theorem ix4_3 (a b c d : Value) (W : World) : (Instr.index 103 (.agg #[a, b, c, d]) (.int .i64 3)).run Tryz.prog W = .ok d W := by
 simp [Instr.index, run_underlying Tryz.underlying103, asIntOf, go_sem]
def NR (l : Lo) (W0 : World) (g : Nat) (s83 : Value) (W : World) : Prop := ∃ k : Nat, k + g = 4 ∧ s83 = .int .i64 k ∧ (∀ j, j < k → amt (am4 l)[j]! = true) ∧ W = W0
theorem rg_ways (l : Lo) : (l.id < 1) ∨ (1 ≤ l.id ∧ l.ac < 1000) ∨ (1 ≤ l.id ∧ 1000 ≤ l.ac ∧ l.st < 1) ∨ (1 ≤ l.id ∧ 1000 ≤ l.ac ∧ 1 ≤ l.st ∧ 3 < l.st) ∨ (1 ≤ l.id ∧ 1000 ≤ l.ac ∧ 1 ≤ l.st ∧ l.st ≤ 3 ∧ l.pp < 0) ∨ (1 ≤ l.id ∧ 1000 ≤ l.ac ∧ 1 ≤ l.st ∧ l.st ≤ 3 ∧ 0 ≤ l.pp ∧ l.pi < 0) ∨ (1 ≤ l.id ∧ 1000 ≤ l.ac ∧ 1 ≤ l.st ∧ l.st ≤ 3 ∧ 0 ≤ l.pp ∧ 0 ≤ l.pi ∧ l.rcv < 0) ∨ (1 ≤ l.id ∧ 1000 ≤ l.ac ∧ 1 ≤ l.st ∧ l.st ≤ 3 ∧ 0 ≤ l.pp ∧ 0 ≤ l.pi ∧ 0 ≤ l.rcv ∧ dayB l.chg = false) ∨ (1 ≤ l.id ∧ 1000 ≤ l.ac ∧ 1 ≤ l.st ∧ l.st ≤ 3 ∧ 0 ≤ l.pp ∧ 0 ≤ l.pi ∧ 0 ≤ l.rcv ∧ dayB l.chg = true ∧ rateB l.tm.pen = false) ∨ (1 ≤ l.id ∧ 1000 ≤ l.ac ∧ 1 ≤ l.st ∧ l.st ≤ 3 ∧ 0 ≤ l.pp ∧ 0 ≤ l.pi ∧ 0 ≤ l.rcv ∧ dayB l.chg = true ∧ rateB l.tm.pen = true ∧ rateB l.tm.fe = false) ∨ (1 ≤ l.id ∧ 1000 ≤ l.ac ∧ 1 ≤ l.st ∧ l.st ≤ 3 ∧ 0 ≤ l.pp ∧ 0 ≤ l.pi ∧ 0 ≤ l.rcv ∧ dayB l.chg = true ∧ rateB l.tm.pen = true ∧ rateB l.tm.fe = true ∧ l.ds.length < 1) ∨ (1 ≤ l.id ∧ 1000 ≤ l.ac ∧ 1 ≤ l.st ∧ l.st ≤ 3 ∧ 0 ≤ l.pp ∧ 0 ≤ l.pi ∧ 0 ≤ l.rcv ∧ dayB l.chg = true ∧ rateB l.tm.pen = true ∧ rateB l.tm.fe = true ∧ 1 ≤ l.ds.length ∧ 240 < l.ds.length) ∨ (1 ≤ l.id ∧ 1000 ≤ l.ac ∧ 1 ≤ l.st ∧ l.st ≤ 3 ∧ 0 ≤ l.pp ∧ 0 ≤ l.pi ∧ 0 ≤ l.rcv ∧ dayB l.chg = true ∧ rateB l.tm.pen = true ∧ rateB l.tm.fe = true ∧ 1 ≤ l.ds.length ∧ l.ds.length ≤ 240 ∧ 64 < l.cs.length) ∨ (1 ≤ l.id ∧ 1000 ≤ l.ac ∧ 1 ≤ l.st ∧ l.st ≤ 3 ∧ 0 ≤ l.pp ∧ 0 ≤ l.pi ∧ 0 ≤ l.rcv ∧ dayB l.chg = true ∧ rateB l.tm.pen = true ∧ rateB l.tm.fe = true ∧ 1 ≤ l.ds.length ∧ l.ds.length ≤ 240 ∧ l.cs.length ≤ 64) := by
 by_cases c0 : l.id < 1
 ·exact .inl c0
 have n0 : 1 ≤ l.id := by omega
 by_cases c1 : l.ac < 1000
 ·exact .inr (.inl ⟨n0, c1⟩)
 have n1 : 1000 ≤ l.ac := by omega
 by_cases c2 : l.st < 1
 ·exact .inr (.inr (.inl ⟨n0, n1, c2⟩))
 have n2 : 1 ≤ l.st := by omega
 by_cases c3 : 3 < l.st
 ·exact .inr (.inr (.inr (.inl ⟨n0, n1, n2, c3⟩)))
 have n3 : l.st ≤ 3 := by omega
 by_cases c4 : l.pp < 0
 ·exact .inr (.inr (.inr (.inr (.inl ⟨n0, n1, n2, n3, c4⟩))))
 have n4 : 0 ≤ l.pp := by omega
 by_cases c5 : l.pi < 0
 ·exact .inr (.inr (.inr (.inr (.inr (.inl ⟨n0, n1, n2, n3, n4, c5⟩)))))
 have n5 : 0 ≤ l.pi := by omega
 by_cases c6 : l.rcv < 0
 ·exact .inr (.inr (.inr (.inr (.inr (.inr (.inl ⟨n0, n1, n2, n3, n4, n5, c6⟩))))))
 have n6 : 0 ≤ l.rcv := by omega
 by_cases c7 : dayB l.chg = false
 ·exact .inr (.inr (.inr (.inr (.inr (.inr (.inr (.inl ⟨n0, n1, n2, n3, n4, n5, n6, c7⟩)))))))
 have n7 : dayB l.chg = true := by simpa using c7
 by_cases c8 : rateB l.tm.pen = false
 ·exact .inr (.inr (.inr (.inr (.inr (.inr (.inr (.inr (.inl ⟨n0, n1, n2, n3, n4, n5, n6, n7, c8⟩))))))))
 have n8 : rateB l.tm.pen = true := by simpa using c8
 by_cases c9 : rateB l.tm.fe = false
 ·exact .inr (.inr (.inr (.inr (.inr (.inr (.inr (.inr (.inr (.inl ⟨n0, n1, n2, n3, n4, n5, n6, n7, n8, c9⟩)))))))))
 have n9 : rateB l.tm.fe = true := by simpa using c9
 by_cases c10 : l.ds.length < 1
 ·exact .inr (.inr (.inr (.inr (.inr (.inr (.inr (.inr (.inr (.inr (.inl ⟨n0, n1, n2, n3, n4, n5, n6, n7, n8, n9, c10⟩))))))))))
 have n10 : 1 ≤ l.ds.length := by omega
 by_cases c11 : 240 < l.ds.length
 ·exact .inr (.inr (.inr (.inr (.inr (.inr (.inr (.inr (.inr (.inr (.inr (.inl ⟨n0, n1, n2, n3, n4, n5, n6, n7, n8, n9, n10, c11⟩)))))))))))
 have n11 : l.ds.length ≤ 240 := by omega
 by_cases c12 : 64 < l.cs.length
 ·exact .inr (.inr (.inr (.inr (.inr (.inr (.inr (.inr (.inr (.inr (.inr (.inr (.inl ⟨n0, n1, n2, n3, n4, n5, n6, n7, n8, n9, n10, n11, c12⟩))))))))))))
 have n12 : l.cs.length ≤ 64 := by omega
 exact .inr (.inr (.inr (.inr (.inr (.inr (.inr (.inr (.inr (.inr (.inr (.inr (.inr (⟨n0, n1, n2, n3, n4, n5, n6, n7, n8, n9, n10, n11, n12⟩)))))))))))))
set_option maxHeartbeats 16000000 in
theorem nums_any (l : Lo) (da ca : Option Addr) (dk ck : Nat) (w : World) (h : DuesIn w da l.ds) :
  Calls Tryz.prog 66 #[(.agg #[.int .i64 (l).id, .int .i64 (l).ac, .int .i64 (l).st, .int .i64 (l).pp, .int .i64 (l).pi, .int .i64 (l).fee, .int .i64 (l).pen, .int .i64 (l).chg, .int .i64 (l).prov, .int .i64 (l).loss, .int .i64 (l).rcv, .int .i64 ((l).tm).me, .int .i64 ((l).tm).pr, .int .i64 ((l).tm).ppm, .int .i64 ((l).tm).stt, .int .i64 ((l).tm).ev, .int .i64 ((l).tm).ct, .int .i64 ((l).tm).ba, .int .i64 ((l).tm).mo, .int .i64 ((l).tm).pen, .int .i64 ((l).tm).fe, .string ((l).tm).cal, .string ((l).tm).cur, .slice da (l).ds.length dk, .slice ca (l).cs.length ck])] w fun e w' => e = .returned (.bool (rangedB l)) ∧ Below w.heap.size w w' := by
 have HC := Lib.hid (fun (W : World) (hW : Below w.heap.size w W) => contd_any 108 #[] (fun d => !dueB d) da dk l.ds W (h.later hW) (enters_of Tryz.func108 (by kernel_rfl) rfl) (nums1_any W))
 have H1 := Lib.hid (fun (n : Int) (W : World) => day_any n W)
 have H2 := Lib.hid (fun (n : Int) (W : World) => amount_any n W)
 have H3 := Lib.hid (fun (n : Int) (W : World) => rate_any n W)
 have i0 := ix4_0 (.int .i64 l.fee) (.int .i64 l.pen) (.int .i64 l.prov) (.int .i64 l.loss)
 have i1 := ix4_1 (.int .i64 l.fee) (.int .i64 l.pen) (.int .i64 l.prov) (.int .i64 l.loss)
 have i2 := ix4_2 (.int .i64 l.fee) (.int .i64 l.pen) (.int .i64 l.prov) (.int .i64 l.loss)
 have i3 := ix4_3 (.int .i64 l.fee) (.int .i64 l.pen) (.int .i64 l.prov) (.int .i64 l.loss)
 have b0 := Below.refl w.heap.size w
 have bb : Below w.heap.size w (w.alloc (.cells #[.int .i64 (l).id, .int .i64 (l).ac, .int .i64 (l).st, .int .i64 (l).pp, .int .i64 (l).pi, .int .i64 (l).fee, .int .i64 (l).pen, .int .i64 (l).chg, .int .i64 (l).prov, .int .i64 (l).loss, .int .i64 (l).rcv, .int .i64 ((l).tm).me, .int .i64 ((l).tm).pr, .int .i64 ((l).tm).ppm, .int .i64 ((l).tm).stt, .int .i64 ((l).tm).ev, .int .i64 ((l).tm).ct, .int .i64 ((l).tm).ba, .int .i64 ((l).tm).mo, .int .i64 ((l).tm).pen, .int .i64 ((l).tm).fe, .string ((l).tm).cal, .string ((l).tm).cur, .slice da (l).ds.length dk, .slice ca (l).cs.length ck] 32)) := b0.alloc (Nat.le_refl _) _
 clear h
 obtain ⟨r, hr⟩ : ∃ r, r = rangedB l := ⟨_, rfl⟩
 rw [← hr]
 have HR := Lib.hid hr
 clear hr
 rcases rg_ways l with ⟨h0⟩ | ⟨h0, h1⟩ | ⟨h0, h1, h2⟩ | ⟨h0, h1, h2, h3⟩ | ⟨h0, h1, h2, h3, h4⟩ | ⟨h0, h1, h2, h3, h4, h5⟩ | ⟨h0, h1, h2, h3, h4, h5, h6⟩ | ⟨h0, h1, h2, h3, h4, h5, h6, h7⟩ | ⟨h0, h1, h2, h3, h4, h5, h6, h7, h8⟩ | ⟨h0, h1, h2, h3, h4, h5, h6, h7, h8, h9⟩ | ⟨h0, h1, h2, h3, h4, h5, h6, h7, h8, h9, h10⟩ | ⟨h0, h1, h2, h3, h4, h5, h6, h7, h8, h9, h10, h11⟩ | ⟨h0, h1, h2, h3, h4, h5, h6, h7, h8, h9, h10, h11, h12⟩ | ⟨h0, h1, h2, h3, h4, h5, h6, h7, h8, h9, h10, h11, h12⟩
 ·have HF := Lib.hid (show r = false by rw [HR.out]; exact rg_bad fun hh => by have hh := rg_no hh; first | omega | simp [*] at hh)
  go_enter Tryz.func66, Tryz.ntmps66
  go_wp2_with fail
  go_ret
  exact ⟨by rw [HF.out]; rfl, bb⟩
 ·have HF := Lib.hid (show r = false by rw [HR.out]; exact rg_bad fun hh => by have hh := rg_no hh; first | omega | simp [*] at hh)
  go_enter Tryz.func66, Tryz.ntmps66
  go_wp2_with fail
  go_ret
  exact ⟨by rw [HF.out]; rfl, bb⟩
 ·have HF := Lib.hid (show r = false by rw [HR.out]; exact rg_bad fun hh => by have hh := rg_no hh; first | omega | simp [*] at hh)
  go_enter Tryz.func66, Tryz.ntmps66
  go_wp2_with fail
  go_ret
  exact ⟨by rw [HF.out]; rfl, bb⟩
 ·have HF := Lib.hid (show r = false by rw [HR.out]; exact rg_bad fun hh => by have hh := rg_no hh; first | omega | simp [*] at hh)
  go_enter Tryz.func66, Tryz.ntmps66
  go_wp2_with fail
  go_ret
  exact ⟨by rw [HF.out]; rfl, bb⟩
 ·have HF := Lib.hid (show r = false by rw [HR.out]; exact rg_bad fun hh => by have hh := rg_no hh; first | omega | simp [*] at hh)
  go_enter Tryz.func66, Tryz.ntmps66
  go_wp2_with fail
  go_ret
  exact ⟨by rw [HF.out]; rfl, bb⟩
 ·have HF := Lib.hid (show r = false by rw [HR.out]; exact rg_bad fun hh => by have hh := rg_no hh; first | omega | simp [*] at hh)
  go_enter Tryz.func66, Tryz.ntmps66
  go_wp2_with fail
  go_ret
  exact ⟨by rw [HF.out]; rfl, bb⟩
 ·have HF := Lib.hid (show r = false by rw [HR.out]; exact rg_bad fun hh => by have hh := rg_no hh; first | omega | simp [*] at hh)
  go_enter Tryz.func66, Tryz.ntmps66
  go_wp2_with fail
  go_ret
  exact ⟨by rw [HF.out]; rfl, bb⟩
 ·have HF := Lib.hid (show r = false by rw [HR.out]; exact rg_bad fun hh => by have hh := rg_no hh; first | omega | simp [*] at hh)
  go_enter Tryz.func66, Tryz.ntmps66
  go_wp2_with fail
  refine (H1.out _ _).mono ?_
  rintro e w1 ⟨rfl, rfl⟩
  rw [h7]
  go_wp2_with fail
  go_ret
  exact ⟨by rw [HF.out]; rfl, bb⟩
 ·have HF := Lib.hid (show r = false by rw [HR.out]; exact rg_bad fun hh => by have hh := rg_no hh; first | omega | simp [*] at hh)
  go_enter Tryz.func66, Tryz.ntmps66
  go_wp2_with fail
  refine (H1.out _ _).mono ?_
  rintro e w1 ⟨rfl, rfl⟩
  rw [h7]
  go_wp2_with fail
  refine (H3.out _ _).mono ?_
  rintro e w1 ⟨rfl, rfl⟩
  rw [h8]
  go_wp2_with fail
  go_ret
  exact ⟨by rw [HF.out]; rfl, bb⟩
 ·have HF := Lib.hid (show r = false by rw [HR.out]; exact rg_bad fun hh => by have hh := rg_no hh; first | omega | simp [*] at hh)
  go_enter Tryz.func66, Tryz.ntmps66
  go_wp2_with fail
  refine (H1.out _ _).mono ?_
  rintro e w1 ⟨rfl, rfl⟩
  rw [h7]
  go_wp2_with fail
  refine (H3.out _ _).mono ?_
  rintro e w1 ⟨rfl, rfl⟩
  rw [h8]
  go_wp2_with fail
  refine (H3.out _ _).mono ?_
  rintro e w1 ⟨rfl, rfl⟩
  rw [h9]
  go_wp2_with fail
  go_ret
  exact ⟨by rw [HF.out]; rfl, bb⟩
 ·have HF := Lib.hid (show r = false by rw [HR.out]; exact rg_bad fun hh => by have hh := rg_no hh; first | omega | simp [*] at hh)
  go_enter Tryz.func66, Tryz.ntmps66
  go_wp2_with fail
  refine (H1.out _ _).mono ?_
  rintro e w1 ⟨rfl, rfl⟩
  rw [h7]
  go_wp2_with fail
  refine (H3.out _ _).mono ?_
  rintro e w1 ⟨rfl, rfl⟩
  rw [h8]
  go_wp2_with fail
  refine (H3.out _ _).mono ?_
  rintro e w1 ⟨rfl, rfl⟩
  rw [h9]
  go_wp2_with fail
  go_ret
  exact ⟨by rw [HF.out]; rfl, bb⟩
 ·have HF := Lib.hid (show r = false by rw [HR.out]; exact rg_bad fun hh => by have hh := rg_no hh; first | omega | simp [*] at hh)
  go_enter Tryz.func66, Tryz.ntmps66
  go_wp2_with fail
  refine (H1.out _ _).mono ?_
  rintro e w1 ⟨rfl, rfl⟩
  rw [h7]
  go_wp2_with fail
  refine (H3.out _ _).mono ?_
  rintro e w1 ⟨rfl, rfl⟩
  rw [h8]
  go_wp2_with fail
  refine (H3.out _ _).mono ?_
  rintro e w1 ⟨rfl, rfl⟩
  rw [h9]
  go_wp2_with fail
  go_ret
  exact ⟨by rw [HF.out]; rfl, bb⟩
 ·have HF := Lib.hid (show r = false by rw [HR.out]; exact rg_bad fun hh => by have hh := rg_no hh; first | omega | simp [*] at hh)
  go_enter Tryz.func66, Tryz.ntmps66
  go_wp2_with fail
  refine (H1.out _ _).mono ?_
  rintro e w1 ⟨rfl, rfl⟩
  rw [h7]
  go_wp2_with fail
  refine (H3.out _ _).mono ?_
  rintro e w1 ⟨rfl, rfl⟩
  rw [h8]
  go_wp2_with fail
  refine (H3.out _ _).mono ?_
  rintro e w1 ⟨rfl, rfl⟩
  rw [h9]
  go_wp2_with fail
  go_ret
  exact ⟨by rw [HF.out]; rfl, bb⟩
 ·go_enter Tryz.func66, Tryz.ntmps66
  go_wp2_with fail
  refine (H1.out _ _).mono ?_
  rintro e w1 ⟨rfl, rfl⟩
  rw [h7]
  go_wp2_with fail
  refine (H3.out _ _).mono ?_
  rintro e w1 ⟨rfl, rfl⟩
  rw [h8]
  go_wp2_with fail
  refine (H3.out _ _).mono ?_
  rintro e w1 ⟨rfl, rfl⟩
  rw [h9]
  go_wp2_with fail
  go_loopg [83] 4 (NR l (w.alloc (.cells #[.int .i64 (l).id, .int .i64 (l).ac, .int .i64 (l).st, .int .i64 (l).pp, .int .i64 (l).pi, .int .i64 (l).fee, .int .i64 (l).pen, .int .i64 (l).chg, .int .i64 (l).prov, .int .i64 (l).loss, .int .i64 (l).rcv, .int .i64 ((l).tm).me, .int .i64 ((l).tm).pr, .int .i64 ((l).tm).ppm, .int .i64 ((l).tm).stt, .int .i64 ((l).tm).ev, .int .i64 ((l).tm).ct, .int .i64 ((l).tm).ba, .int .i64 ((l).tm).mo, .int .i64 ((l).tm).pen, .int .i64 ((l).tm).fe, .string ((l).tm).cal, .string ((l).tm).cur, .slice da (l).ds.length dk, .slice ca (l).cs.length ck] 32)))
  case atStart => exact ⟨0, by omega, rfl, fun j hj => by omega, rfl⟩
  case round =>
   obtain ⟨k, hk, rfl, hall, rfl⟩ := hrel
   have HA := Lib.hid hall
   clear hall
   have hk5 : k = 0 ∨ k = 1 ∨ k = 2 ∨ k = 3 ∨ k = 4 := by omega
   rcases hk5 with rfl | rfl | rfl | rfl | rfl
   ·cases hv : amt l.fee
    ·have HF := Lib.hid (show r = false by rw [HR.out]; exact rg_bad fun hh => by have hh := rg_no hh; simp [hv] at hh)
     have HV := Lib.hid hv
     clear hv
     go_wp2_with fail
     refine (H2.out _ _).mono ?_
     rintro e w1 ⟨rfl, rfl⟩
     rw [HV.out]
     go_wp2_with fail
     go_ret
     exact ⟨by rw [HF.out]; rfl, bb⟩
    ·have HV := Lib.hid hv
     clear hv
     go_wp2_with fail
     refine (H2.out _ _).mono ?_
     rintro e w1 ⟨rfl, rfl⟩
     rw [HV.out]
     go_wp2_with fail
     go_roundg (gk - 1)
     case measure => omega
     case rel => exact ⟨1, by omega, by go_num, fun j hj => by
      by_cases e : j = 0
      ·subst e; exact HV.out
      ·exact HA.out j (by omega), rfl⟩
   ·cases hv : amt l.pen
    ·have HF := Lib.hid (show r = false by rw [HR.out]; exact rg_bad fun hh => by have hh := rg_no hh; simp [hv] at hh)
     have HV := Lib.hid hv
     clear hv
     go_wp2_with fail
     refine (H2.out _ _).mono ?_
     rintro e w1 ⟨rfl, rfl⟩
     rw [HV.out]
     go_wp2_with fail
     go_ret
     exact ⟨by rw [HF.out]; rfl, bb⟩
    ·have HV := Lib.hid hv
     clear hv
     go_wp2_with fail
     refine (H2.out _ _).mono ?_
     rintro e w1 ⟨rfl, rfl⟩
     rw [HV.out]
     go_wp2_with fail
     go_roundg (gk - 1)
     case measure => omega
     case rel => exact ⟨2, by omega, by go_num, fun j hj => by
      by_cases e : j = 1
      ·subst e; exact HV.out
      ·exact HA.out j (by omega), rfl⟩
   ·cases hv : amt l.prov
    ·have HF := Lib.hid (show r = false by rw [HR.out]; exact rg_bad fun hh => by have hh := rg_no hh; simp [hv] at hh)
     have HV := Lib.hid hv
     clear hv
     go_wp2_with fail
     refine (H2.out _ _).mono ?_
     rintro e w1 ⟨rfl, rfl⟩
     rw [HV.out]
     go_wp2_with fail
     go_ret
     exact ⟨by rw [HF.out]; rfl, bb⟩
    ·have HV := Lib.hid hv
     clear hv
     go_wp2_with fail
     refine (H2.out _ _).mono ?_
     rintro e w1 ⟨rfl, rfl⟩
     rw [HV.out]
     go_wp2_with fail
     go_roundg (gk - 1)
     case measure => omega
     case rel => exact ⟨3, by omega, by go_num, fun j hj => by
      by_cases e : j = 2
      ·subst e; exact HV.out
      ·exact HA.out j (by omega), rfl⟩
   ·cases hv : amt l.loss
    ·have HF := Lib.hid (show r = false by rw [HR.out]; exact rg_bad fun hh => by have hh := rg_no hh; simp [hv] at hh)
     have HV := Lib.hid hv
     clear hv
     go_wp2_with fail
     refine (H2.out _ _).mono ?_
     rintro e w1 ⟨rfl, rfl⟩
     rw [HV.out]
     go_wp2_with fail
     go_ret
     exact ⟨by rw [HF.out]; rfl, bb⟩
    ·have HV := Lib.hid hv
     clear hv
     go_wp2_with fail
     refine (H2.out _ _).mono ?_
     rintro e w1 ⟨rfl, rfl⟩
     rw [HV.out]
     go_wp2_with fail
     go_roundg (gk - 1)
     case measure => omega
     case rel => exact ⟨4, by omega, by go_num, fun j hj => by
      by_cases e : j = 3
      ·subst e; exact HV.out
      ·exact HA.out j (by omega), rfl⟩
   ·go_wp2_with fail
    refine (HC.out _ bb).mono ?_
    rintro e w1 ⟨rfl, hb⟩
    have HE := Lib.hid (show r = l.ds.all dueB by
     rw [HR.out]
     cases hv : l.ds.all dueB
     ·exact rg_bad fun hh => by have hh := rg_no hh; simp [hv] at hh
     ·exact rg_yes ⟨h0, h1, h2, h3, h4, h5, h6, h7, h8, h9, h10, h11, h12, HA.out 0 (by omega), HA.out 1 (by omega), HA.out 2 (by omega), HA.out 3 (by omega), hv⟩)
    rw [all_not]
    generalize l.ds.all dueB = v at *
    go_wp2_with fail
    go_ret
    exact ⟨by rw [HE.out]; simp, bl2 hb bb⟩
end Go.Proofs.YtlolflephnbbcaaGreatDoor.Ln

namespace Go.Proofs.YtlolflephnbbcaaGreatDoor.Ln
open Go.RowKit
open Go.Proofs.YtlolflephnbbcaaGreatDoor

theorem load_guarded {P : Program} {ops : Array Oper} {rest : List Oper} {o : Oper} {a : Act} {w : World} {Q : Exit → Act → World → Prop} (ty : TypeId) (x : Operand) (ho : o.op = .load ty x) (hw : Region.wanted o (yielded ops a.tmps) = true)
  (g : Nat) (hx : a.eval x = .pointer (some ⟨g, 0, none⟩)) (t : TypeId) (cs : Array Value) (fr : Nat × Nat) (d : TypeDesc) (hg : w.heap[g]? = some (.cells cs t fr))
  (hu : P.underlying ty = some d) (hd : (match d with | .struct _ | .array _ _ => true | _ => false) = true) (hi : (P.info? ty).map (·.size) = some cs.size)
  (h : wpList P ops Q rest (a.put o.dst (.agg cs)) w) : wpList P ops Q (o :: rest) a w :=
 BigFrame.wpList_want hw fun _ hK => wp_load_row ty x ho g hx t cs fr d hg hu hd hi (hK _ _ h)
theorem chk_1 {l : Lo} (h : rangedB l = false) : chk l = 1 := by unfold chk; rw [h]; rfl
theorem chk_10 {l : Lo} (h : rangedB l = true) (h2 : ordB l.ds = false) : chk l = 10 := by unfold chk; rw [h, h2]; rfl
theorem chk_25 {l : Lo} (h : rangedB l = true) (h2 : ordB l.ds = true) (h3 : sumsB l = false) : chk l = 25 := by unfold chk; rw [h, h2, h3]; rfl
theorem chk_0 {l : Lo} (h : rangedB l = true) (h2 : ordB l.ds = true) (h3 : sumsB l = true) : chk l = 0 := by unfold chk; rw [h, h2, h3]; rfl
theorem sums_parts {l : Lo} (h : sumsB l = true) : l.pp ≤ P l.ds ∧ l.pi ≤ I l.ds ∧ l.rcv ≤ l.loss ∧ (l.cs.length ≠ 0 ∨ P l.ds = l.tm.pr) ∧ (l.st = 3 ∨ leftB l = decide (l.st = 1)) ∧ (l.st = 3 ∨ (l.loss = 0 ∧ l.rcv = 0)) := by
 simp only [sumsB, Bool.and_eq_true, Bool.or_eq_true, decide_eq_true_eq, beq_iff_eq] at h
 obtain ⟨⟨⟨⟨⟨c1, c2⟩, c3⟩, c4⟩, c5⟩, c6⟩ := h
 exact ⟨c1, c2, c3, c4, c5, c6⟩
theorem sums_mk {l : Lo} (h : l.pp ≤ P l.ds ∧ l.pi ≤ I l.ds ∧ l.rcv ≤ l.loss ∧ (l.cs.length ≠ 0 ∨ P l.ds = l.tm.pr) ∧ (l.st = 3 ∨ leftB l = decide (l.st = 1)) ∧ (l.st = 3 ∨ (l.loss = 0 ∧ l.rcv = 0))) : sumsB l = true := by
 obtain ⟨c1, c2, c3, c4, c5, c6⟩ := h
 simp only [sumsB, Bool.and_eq_true, Bool.or_eq_true, decide_eq_true_eq, beq_iff_eq]
 exact ⟨⟨⟨⟨⟨c1, c2⟩, c3⟩, c4⟩, c5⟩, c6⟩
theorem sums_bad {l : Lo} (h : ¬ (sumsB l = true)) : sumsB l = false := by cases hv : sumsB l <;> simp_all
inductive Way (pp p pi i rcv loss pr st : Int) (n : Nat) (f : Bool) : Int → Prop where
 | a : p < pp → Way pp p pi i rcv loss pr st n f 25
 | b : pp ≤ p → i < pi → Way pp p pi i rcv loss pr st n f 25
 | c : pp ≤ p → pi ≤ i → loss < rcv → Way pp p pi i rcv loss pr st n f 25
 | d : pp ≤ p → pi ≤ i → rcv ≤ loss → n = 0 → p ≠ pr → Way pp p pi i rcv loss pr st n f 25
 | e : pp ≤ p → pi ≤ i → rcv ≤ loss → (n = 0 ∧ p = pr) ∨ n ≠ 0 → (st = 2 ∧ f = true) ∨ (st = 1 ∧ f = false) → Way pp p pi i rcv loss pr st n f 25
 | g : pp ≤ p → pi ≤ i → rcv ≤ loss → (n = 0 ∧ p = pr) ∨ n ≠ 0 → (st = 2 ∧ f = false) ∨ (st = 1 ∧ f = true) → (loss ≠ 0) ∨ (loss = 0 ∧ rcv ≠ 0) → Way pp p pi i rcv loss pr st n f 25
 | k : pp ≤ p → pi ≤ i → rcv ≤ loss → (n = 0 ∧ p = pr) ∨ n ≠ 0 → (st = 2 ∧ f = false) ∨ (st = 1 ∧ f = true) → loss = 0 → rcv = 0 → Way pp p pi i rcv loss pr st n f 0
 | m : pp ≤ p → pi ≤ i → rcv ≤ loss → (n = 0 ∧ p = pr) ∨ n ≠ 0 → st = 3 → Way pp p pi i rcv loss pr st n f 0
theorem way_of (l : Lo) (h : rangedB l = true) (h2 : ordB l.ds = true) : Way l.pp (P l.ds) l.pi (I l.ds) l.rcv l.loss l.tm.pr l.st l.cs.length (leftB l) (chk l) := by
 have hr := rg_no h
 by_cases ca : P l.ds < l.pp
 ·rw [chk_25 h h2 (sums_bad fun hh => by have := (sums_parts hh).1; omega)]; exact .a ca
 by_cases cb : I l.ds < l.pi
 ·rw [chk_25 h h2 (sums_bad fun hh => by have := (sums_parts hh).2.1; omega)]; exact .b (by omega) cb
 by_cases cc : l.loss < l.rcv
 ·rw [chk_25 h h2 (sums_bad fun hh => by have := (sums_parts hh).2.2.1; omega)]; exact .c (by omega) (by omega) cc
 by_cases cd : l.cs.length = 0 ∧ P l.ds ≠ l.tm.pr
 ·rw [chk_25 h h2 (sums_bad fun hh => by rcases (sums_parts hh).2.2.2.1 with h | h; exact h cd.1; exact cd.2 h)]; exact .d (by omega) (by omega) (by omega) cd.1 cd.2
 have ce : (l.cs.length = 0 ∧ P l.ds = l.tm.pr) ∨ l.cs.length ≠ 0 := by omega
 by_cases cf : l.st = 3
 ·rw [chk_0 h h2 (sums_mk ⟨by omega, by omega, by omega, by omega, .inl cf, .inl cf⟩)]; exact .m (by omega) (by omega) (by omega) ce cf
 cases hv : leftB l
 ·by_cases cg : l.st = 1
  ·rw [chk_25 h h2 (sums_bad fun hh => by
    rcases (sums_parts hh).2.2.2.2.1 with h | h
    ·exact cf h
    ·rw [hv, cg] at h; simp at h)]
   exact .e (by omega) (by omega) (by omega) ce (.inr ⟨cg, rfl⟩)
  ·have cs : l.st = 2 := by omega
   by_cases cl : l.loss = 0 ∧ l.rcv = 0
   ·rw [chk_0 h h2 (sums_mk ⟨by omega, by omega, by omega, by omega, .inr (by rw [hv, cs]; rfl), .inr cl⟩)]; exact .k (by omega) (by omega) (by omega) ce (.inl ⟨cs, rfl⟩) cl.1 cl.2
   ·rw [chk_25 h h2 (sums_bad fun hh => by rcases (sums_parts hh).2.2.2.2.2 with h | h; exact cf h; exact cl h)]; exact .g (by omega) (by omega) (by omega) ce (.inl ⟨cs, rfl⟩) (by omega)
 ·by_cases cg : l.st = 2
  ·rw [chk_25 h h2 (sums_bad fun hh => by
    rcases (sums_parts hh).2.2.2.2.1 with h | h
    ·exact cf h
    ·rw [hv, cg] at h; simp at h)]
   exact .e (by omega) (by omega) (by omega) ce (.inl ⟨cg, rfl⟩)
  ·have cs : l.st = 1 := by omega
   by_cases cl : l.loss = 0 ∧ l.rcv = 0
   ·rw [chk_0 h h2 (sums_mk ⟨by omega, by omega, by omega, by omega, .inr (by rw [hv, cs]; rfl), .inr cl⟩)]; exact .k (by omega) (by omega) (by omega) ce (.inr ⟨cs, rfl⟩) cl.1 cl.2
   ·rw [chk_25 h h2 (sums_bad fun hh => by rcases (sums_parts hh).2.2.2.2.2 with h | h; exact cf h; exact cl h)]; exact .g (by omega) (by omega) (by omega) ce (.inr ⟨cs, rfl⟩) (by omega)

set_option maxHeartbeats 16000000 in
set_option maxRecDepth 100000 in
theorem check_r (l : Lo) (da ca : Option Addr) (dk ck : Nat) (w : World) (h : DuesIn w da l.ds) (hr : rangedB l = false) :
  Calls Tryz.prog 35 #[(.agg #[.int .i64 (l).id, .int .i64 (l).ac, .int .i64 (l).st, .int .i64 (l).pp, .int .i64 (l).pi, .int .i64 (l).fee, .int .i64 (l).pen, .int .i64 (l).chg, .int .i64 (l).prov, .int .i64 (l).loss, .int .i64 (l).rcv, .int .i64 ((l).tm).me, .int .i64 ((l).tm).pr, .int .i64 ((l).tm).ppm, .int .i64 ((l).tm).stt, .int .i64 ((l).tm).ev, .int .i64 ((l).tm).ct, .int .i64 ((l).tm).ba, .int .i64 ((l).tm).mo, .int .i64 ((l).tm).pen, .int .i64 ((l).tm).fe, .string ((l).tm).cal, .string ((l).tm).cur, .slice da (l).ds.length dk, .slice ca (l).cs.length ck])] w fun e w' => e = .returned (.int .i64 (chk l)) ∧ Below w.heap.size w w' := by
 have b0 := Below.refl w.heap.size w
 have HN := Lib.hid (nums_any l da ca dk ck)
 have HO := Lib.hid (ord_any da dk l.ds)
 have HS := Lib.hid (sums_any da dk l.ds)
 have HL := Lib.hid (left_any l da ca dk ck)
 have HD := Lib.hid h
 have bb : Below w.heap.size w (w.alloc (.cells #[.int .i64 (l).id, .int .i64 (l).ac, .int .i64 (l).st, .int .i64 (l).pp, .int .i64 (l).pi, .int .i64 (l).fee, .int .i64 (l).pen, .int .i64 (l).chg, .int .i64 (l).prov, .int .i64 (l).loss, .int .i64 (l).rcv, .int .i64 ((l).tm).me, .int .i64 ((l).tm).pr, .int .i64 ((l).tm).ppm, .int .i64 ((l).tm).stt, .int .i64 ((l).tm).ev, .int .i64 ((l).tm).ct, .int .i64 ((l).tm).ba, .int .i64 ((l).tm).mo, .int .i64 ((l).tm).pen, .int .i64 ((l).tm).fe, .string ((l).tm).cal, .string ((l).tm).cur, .slice da (l).ds.length dk, .slice ca (l).cs.length ck] 32)) := b0.alloc (Nat.le_refl _) _
 clear h
 have HF := Lib.hid (chk_1 hr)
 have HV := Lib.hid hr
 clear hr
 go_enter Tryz.func35, Tryz.ntmps35
 go_wp2_with (refine wpList_load_row rfl 32 _ rfl _ rfl _ _ _ _ (Bk.Blk.nw10) Tryz.underlying32 rfl (by kernel_rfl) ?_)
 refine (HN.out _ (HD.out.later bb)).mono ?_
 rintro e w1 ⟨rfl, hb1⟩
 have hk := Bk.Blk.later (g := w.heap.size) hb1 (by first | with_reducible exact Bk.Blk.nw10 | with_reducible exact Bk.Blk.nw20 | with_reducible exact Bk.Blk.nw21 | with_reducible exact Bk.Blk.nw30 | with_reducible exact Bk.Blk.nw31 | with_reducible exact Bk.Blk.nw32 | with_reducible exact Bk.Blk.nw40 | with_reducible exact Bk.Blk.nw41 | with_reducible exact Bk.Blk.nw42 | with_reducible exact Bk.Blk.nw43)
 have b1 := bl2 hb1 bb
 have z1 := b1.size
 clear hb1
 rw [HV.out]
 go_wp2_with fail
 go_ret
 exact ⟨by rw [HF.out]; rfl, b1⟩
set_option maxHeartbeats 16000000 in
set_option maxRecDepth 100000 in
theorem check_any (l : Lo) (da ca : Option Addr) (dk ck : Nat) (w : World) (h : DuesIn w da l.ds) :
  Calls Tryz.prog 35 #[(.agg #[.int .i64 (l).id, .int .i64 (l).ac, .int .i64 (l).st, .int .i64 (l).pp, .int .i64 (l).pi, .int .i64 (l).fee, .int .i64 (l).pen, .int .i64 (l).chg, .int .i64 (l).prov, .int .i64 (l).loss, .int .i64 (l).rcv, .int .i64 ((l).tm).me, .int .i64 ((l).tm).pr, .int .i64 ((l).tm).ppm, .int .i64 ((l).tm).stt, .int .i64 ((l).tm).ev, .int .i64 ((l).tm).ct, .int .i64 ((l).tm).ba, .int .i64 ((l).tm).mo, .int .i64 ((l).tm).pen, .int .i64 ((l).tm).fe, .string ((l).tm).cal, .string ((l).tm).cur, .slice da (l).ds.length dk, .slice ca (l).cs.length ck])] w fun e w' => e = .returned (.int .i64 (chk l)) ∧ Below w.heap.size w w' := by
 cases hr : rangedB l
 ·exact check_r l da ca dk ck w h hr
 ·
  have b0 := Below.refl w.heap.size w
  have HN := Lib.hid (nums_any l da ca dk ck)
  have HO := Lib.hid (ord_any da dk l.ds)
  have HS := Lib.hid (sums_any da dk l.ds)
  have HL := Lib.hid (left_any l da ca dk ck)
  have HD := Lib.hid h
  have bb : Below w.heap.size w (w.alloc (.cells #[.int .i64 (l).id, .int .i64 (l).ac, .int .i64 (l).st, .int .i64 (l).pp, .int .i64 (l).pi, .int .i64 (l).fee, .int .i64 (l).pen, .int .i64 (l).chg, .int .i64 (l).prov, .int .i64 (l).loss, .int .i64 (l).rcv, .int .i64 ((l).tm).me, .int .i64 ((l).tm).pr, .int .i64 ((l).tm).ppm, .int .i64 ((l).tm).stt, .int .i64 ((l).tm).ev, .int .i64 ((l).tm).ct, .int .i64 ((l).tm).ba, .int .i64 ((l).tm).mo, .int .i64 ((l).tm).pen, .int .i64 ((l).tm).fe, .string ((l).tm).cal, .string ((l).tm).cur, .slice da (l).ds.length dk, .slice ca (l).cs.length ck] 32)) := b0.alloc (Nat.le_refl _) _
  clear h
  cases ho : ordB l.ds
  ·have HF := Lib.hid (chk_10 hr ho)
   have HV := Lib.hid hr
   have HU := Lib.hid ho
   clear hr ho
   go_enter Tryz.func35, Tryz.ntmps35
   go_wp2_with (refine wpList_load_row rfl 32 _ rfl _ rfl _ _ _ _ (Bk.Blk.nw10) Tryz.underlying32 rfl (by kernel_rfl) ?_)
   refine (HN.out _ (HD.out.later bb)).mono ?_
   rintro e w1 ⟨rfl, hb1⟩
   have hk := Bk.Blk.later (g := w.heap.size) hb1 (by first | with_reducible exact Bk.Blk.nw10 | with_reducible exact Bk.Blk.nw20 | with_reducible exact Bk.Blk.nw21 | with_reducible exact Bk.Blk.nw30 | with_reducible exact Bk.Blk.nw31 | with_reducible exact Bk.Blk.nw32 | with_reducible exact Bk.Blk.nw40 | with_reducible exact Bk.Blk.nw41 | with_reducible exact Bk.Blk.nw42 | with_reducible exact Bk.Blk.nw43)
   have b1 := bl2 hb1 bb
   have z1 := b1.size
   clear hb1
   rw [HV.out]
   have l23 := hk.c23
   go_wp2_with fail
   clear l23
   refine (HO.out _ (HD.out.later b1)).mono ?_
   rintro e w2 ⟨rfl, hb2⟩
   replace hk := hk.later hb2
   have b2 := bl2 hb2 b1
   have z2 := b2.size
   clear hb2
   rw [HU.out]
   go_wp2_with fail
   go_ret
   exact ⟨by rw [HF.out]; rfl, b2⟩
  ·have hw := way_of l hr ho
   have HV := Lib.hid hr
   have HU := Lib.hid ho
   obtain ⟨c, hc⟩ : ∃ c, c = chk l := ⟨_, rfl⟩
   rw [← hc] at hw ⊢
   clear hr ho hc
   go_enter Tryz.func35, Tryz.ntmps35
   go_wp2_with (refine wpList_load_row rfl 32 _ rfl _ rfl _ _ _ _ (Bk.Blk.nw10) Tryz.underlying32 rfl (by kernel_rfl) ?_)
   refine (HN.out _ (HD.out.later bb)).mono ?_
   rintro e w1 ⟨rfl, hb1⟩
   have hk := Bk.Blk.later (g := w.heap.size) hb1 (by first | with_reducible exact Bk.Blk.nw10 | with_reducible exact Bk.Blk.nw20 | with_reducible exact Bk.Blk.nw21 | with_reducible exact Bk.Blk.nw30 | with_reducible exact Bk.Blk.nw31 | with_reducible exact Bk.Blk.nw32 | with_reducible exact Bk.Blk.nw40 | with_reducible exact Bk.Blk.nw41 | with_reducible exact Bk.Blk.nw42 | with_reducible exact Bk.Blk.nw43)
   have b1 := bl2 hb1 bb
   have z1 := b1.size
   clear hb1
   rw [HV.out]
   have l23 := hk.c23
   go_wp2_with fail
   clear l23
   refine (HO.out _ (HD.out.later b1)).mono ?_
   rintro e w2 ⟨rfl, hb2⟩
   replace hk := hk.later hb2
   have b2 := bl2 hb2 b1
   have z2 := b2.size
   clear hb2
   rw [HU.out]
   have l23 := hk.c23
   go_wp2_with fail
   clear l23
   refine (HS.out _ (HD.out.later b2)).mono ?_
   rintro e w3 ⟨rfl, hb3⟩
   replace hk := hk.later hb3
   have b3 := bl2 hb3 b2
   have z3 := b3.size
   clear hb3
   generalize P l.ds = p at *
   generalize I l.ds = i at *
   generalize hf : leftB l = f at *
   have HFL := Lib.hid hf
   clear hf
   have l2 := hk.c2
   have l3 := hk.c3
   have l4 := hk.c4
   have l9 := hk.c9
   have l10 := hk.c10
   have l12 := hk.c12
   have l24 := hk.c24
   cases hw with
   | a h1 =>
    go_wp2_with fail
    go_ret
    exact ⟨rfl, b3⟩
   | b h1 h2 =>
    go_wp2_with fail
    go_ret
    exact ⟨rfl, b3⟩
   | c h1 h2 h3 =>
    go_wp2_with fail
    go_ret
    exact ⟨rfl, b3⟩
   | d h1 h2 h3 h4 h5 =>
    have q1 : ((l.cs.length : Int) == 0) = true := by rw [h4]; rfl
    have q2 : (p != l.tm.pr) = true := bne_iff_ne.2 h5
    clear h4 h5
    go_wp2_with fail
    go_ret
    exact ⟨rfl, b3⟩
   | e h1 h2 h3 h4 h5 =>
    have hcs : (((l.cs.length : Int) == 0) = true ∧ (p != l.tm.pr) = false) ∨ ((l.cs.length : Int) == 0) = false := by
     rcases h4 with ⟨h4, h⟩ | h4
     ·exact .inl ⟨by rw [h4]; rfl, by rw [h]; exact bne_self_eq_false _⟩
     ·exact .inr (beq_eq_false_iff_ne.2 (by omega))
    have hst : ((l.st == 2) = true ∧ (l.st == 1) = false ∧ (l.st != 3) = true ∧ f = true) ∨ ((l.st == 2) = false ∧ (l.st == 1) = true ∧ (l.st != 3) = true ∧ f = false) := by
     rcases h5 with ⟨h5, h⟩ | ⟨h5, h⟩
     ·exact .inl ⟨by rw [h5]; rfl, by rw [h5]; rfl, by rw [h5]; rfl, h⟩
     ·exact .inr ⟨by rw [h5]; rfl, by rw [h5]; rfl, by rw [h5]; rfl, h⟩
    clear h4 h5
    rcases hcs with ⟨q1, q2⟩ | q1
    all_goals rcases hst with ⟨s1, s2, s3, rfl⟩ | ⟨s1, s2, s3, rfl⟩
    all_goals
     go_wp2_with (first | (refine wpList_load_row rfl 32 _ rfl _ rfl _ _ _ _ (hk) Tryz.underlying32 rfl (by kernel_rfl) ?_) | (refine load_guarded 32 _ rfl rfl _ rfl _ _ _ _ (hk) Tryz.underlying32 rfl (by kernel_rfl) ?_))
     refine (HL.out _ (HD.out.later b3)).mono ?_
     rintro e w4 ⟨rfl, hb4⟩
     replace hk := hk.later hb4
     have b4 := bl2 hb4 b3
     clear hb4 l2 l3 l4 l9 l10 l12 l24
     have l2 := hk.c2
     have l9 := hk.c9
     have l10 := hk.c10
     go_wp2_with fail
     go_ret
     exact ⟨rfl, b4⟩
   | g h1 h2 h3 h4 h5 h6 =>
    have hcs : (((l.cs.length : Int) == 0) = true ∧ (p != l.tm.pr) = false) ∨ ((l.cs.length : Int) == 0) = false := by
     rcases h4 with ⟨h4, h⟩ | h4
     ·exact .inl ⟨by rw [h4]; rfl, by rw [h]; exact bne_self_eq_false _⟩
     ·exact .inr (beq_eq_false_iff_ne.2 (by omega))
    have hst : ((l.st == 2) = true ∧ (l.st == 1) = false ∧ (l.st != 3) = true ∧ f = false) ∨ ((l.st == 2) = false ∧ (l.st == 1) = true ∧ (l.st != 3) = true ∧ f = true) := by
     rcases h5 with ⟨h5, h⟩ | ⟨h5, h⟩
     ·exact .inl ⟨by rw [h5]; rfl, by rw [h5]; rfl, by rw [h5]; rfl, h⟩
     ·exact .inr ⟨by rw [h5]; rfl, by rw [h5]; rfl, by rw [h5]; rfl, h⟩
    have hls : (l.loss != 0) = true ∨ ((l.loss != 0) = false ∧ (l.rcv != 0) = true) := by
     rcases h6 with h | ⟨h, h'⟩
     ·exact .inl (bne_iff_ne.2 h)
     ·exact .inr ⟨by rw [h]; rfl, bne_iff_ne.2 h'⟩
    clear h4 h5 h6
    rcases hcs with ⟨q1, q2⟩ | q1
    all_goals rcases hst with ⟨s1, s2, s3, rfl⟩ | ⟨s1, s2, s3, rfl⟩
    all_goals rcases hls with r1 | ⟨r1, r2⟩
    all_goals
     go_wp2_with (first | (refine wpList_load_row rfl 32 _ rfl _ rfl _ _ _ _ (hk) Tryz.underlying32 rfl (by kernel_rfl) ?_) | (refine load_guarded 32 _ rfl rfl _ rfl _ _ _ _ (hk) Tryz.underlying32 rfl (by kernel_rfl) ?_))
     refine (HL.out _ (HD.out.later b3)).mono ?_
     rintro e w4 ⟨rfl, hb4⟩
     replace hk := hk.later hb4
     have b4 := bl2 hb4 b3
     clear hb4 l2 l3 l4 l9 l10 l12 l24
     have l2 := hk.c2
     have l9 := hk.c9
     have l10 := hk.c10
     go_wp2_with fail
     go_ret
     exact ⟨rfl, b4⟩
   | k h1 h2 h3 h4 h5 h6 h7 =>
    have hcs : (((l.cs.length : Int) == 0) = true ∧ (p != l.tm.pr) = false) ∨ ((l.cs.length : Int) == 0) = false := by
     rcases h4 with ⟨h4, h⟩ | h4
     ·exact .inl ⟨by rw [h4]; rfl, by rw [h]; exact bne_self_eq_false _⟩
     ·exact .inr (beq_eq_false_iff_ne.2 (by omega))
    have hst : ((l.st == 2) = true ∧ (l.st == 1) = false ∧ (l.st != 3) = true ∧ f = false) ∨ ((l.st == 2) = false ∧ (l.st == 1) = true ∧ (l.st != 3) = true ∧ f = true) := by
     rcases h5 with ⟨h5, h⟩ | ⟨h5, h⟩
     ·exact .inl ⟨by rw [h5]; rfl, by rw [h5]; rfl, by rw [h5]; rfl, h⟩
     ·exact .inr ⟨by rw [h5]; rfl, by rw [h5]; rfl, by rw [h5]; rfl, h⟩
    have r1 : (l.loss != 0) = false := by rw [h6]; rfl
    have r2 : (l.rcv != 0) = false := by rw [h7]; rfl
    clear h4 h5 h6 h7
    rcases hcs with ⟨q1, q2⟩ | q1
    all_goals rcases hst with ⟨s1, s2, s3, rfl⟩ | ⟨s1, s2, s3, rfl⟩
    all_goals
     go_wp2_with (first | (refine wpList_load_row rfl 32 _ rfl _ rfl _ _ _ _ (hk) Tryz.underlying32 rfl (by kernel_rfl) ?_) | (refine load_guarded 32 _ rfl rfl _ rfl _ _ _ _ (hk) Tryz.underlying32 rfl (by kernel_rfl) ?_))
     refine (HL.out _ (HD.out.later b3)).mono ?_
     rintro e w4 ⟨rfl, hb4⟩
     replace hk := hk.later hb4
     have b4 := bl2 hb4 b3
     clear hb4 l2 l3 l4 l9 l10 l12 l24
     have l2 := hk.c2
     have l9 := hk.c9
     have l10 := hk.c10
     go_wp2_with fail
     go_ret
     exact ⟨rfl, b4⟩
   | m h1 h2 h3 h4 h5 =>
    have hcs : (((l.cs.length : Int) == 0) = true ∧ (p != l.tm.pr) = false) ∨ ((l.cs.length : Int) == 0) = false := by
     rcases h4 with ⟨h4, h⟩ | h4
     ·exact .inl ⟨by rw [h4]; rfl, by rw [h]; exact bne_self_eq_false _⟩
     ·exact .inr (beq_eq_false_iff_ne.2 (by omega))
    have s1 : (l.st == 2) = false := by rw [h5]; rfl
    have s2 : (l.st == 1) = false := by rw [h5]; rfl
    have s3 : (l.st != 3) = false := by rw [h5]; rfl
    clear h4 h5
    rcases hcs with ⟨q1, q2⟩ | q1
    all_goals
     go_wp2_with fail
     go_ret
     exact ⟨rfl, b3⟩
end Go.Proofs.YtlolflephnbbcaaGreatDoor.Ln
