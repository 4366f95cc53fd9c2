/-
  Loans in memory; the small contracts of package loan: day, amount, rate, sums, left.
  Rows of structs in memory, laid flat; slices.Clone at installments and at changes.
  The contracts of package loan that only read: amount, rate, left, Outstanding, ordered.
  slices.IndexFunc and ContainsFunc at installments, whatever the predicate; numbers of package loan.
  Check of package loan.
-/
import Derived.Test.YtfiplppdmedhkaaGreatDoorLnm
import Derived.Test.YtfiplppdmedhkaaGreatDoorBa
import Derived.Deep.LoopGhost
import Derived.Test.YtfiplppdmedhkaaGreatDoorChecked
import Derived.Lib.Hide
import Derived.ProofKit
import Derived.Laws.AppendOwn
import Derived.Laws.OwnMore
import Derived.Lib.SliceRun
import Derived.Shelf.Abstract
import Derived.Laws.Rows
import Derived.Laws.Tables
import Derived.BigFrame
namespace Go.Proofs.YtfiplppdmedhkaaGreatDoor.Ln
open Go.RowKit
open Go.Proofs.YtfiplppdmedhkaaGreatDoor


/-- Installments in memory: four cells each. -/
def DuesIn (W : World) (a : Option Addr) (ds : List Du) : Prop := ds.length ≤ 2305843009213693951 ∧ (0 < ds.length → ∃ b off, a = some ⟨b, off, none⟩ ∧ ∀ j, j < ds.length →
  W.cell? ⟨b, off + j * 4, none⟩ = some (.int .i64 ds[j]!.no) ∧ W.cell? ⟨b, off + j * 4 + 1, none⟩ = some (.int .i64 ds[j]!.day) ∧ W.cell? ⟨b, off + j * 4 + 2, none⟩ = some (.int .i64 ds[j]!.pr) ∧ W.cell? ⟨b, off + j * 4 + 3, none⟩ = some (.int .i64 ds[j]!.it))
theorem DuesIn.later {W w1 : World} {a : Option Addr} {ds : List Du} (hb : Below W.heap.size W w1) (h : DuesIn W a ds) : DuesIn w1 a ds :=
  ⟨h.1, fun h0 => by
    obtain ⟨b, off, ha, hc⟩ := h.2 h0
    exact ⟨b, off, ha, fun j hj => ⟨cell_later hb (hc j hj).1, cell_later hb (hc j hj).2.1, cell_later hb (hc j hj).2.2.1, cell_later hb (hc j hj).2.2.2⟩⟩⟩
theorem bl2 {w W w1 : World} (hb : Below W.heap.size W w1) (h : Below w.heap.size w W) : Below w.heap.size w w1 := h.trans (hb.mono h.size)

/-- Where the loop of sums stands. -/
def SR (w : World) (ds : List Du) (g : Nat) (s4 s5 s10 : Value) (W : World) : Prop := ∃ k : Nat, k + g = ds.length ∧ s10 = .int .i64 k ∧ s4 = .int .i64 (P (ds.take k)) ∧ s5 = .int .i64 (I (ds.take k)) ∧ Below w.heap.size w W
set_option maxHeartbeats 2000000 in
theorem sums_any (a : Option Addr) (cap : Nat) (ds : List Du) (w : World) (h : DuesIn w a ds) :
    Calls Tryz.prog 36 #[.slice a ds.length cap] w fun e w' => e = .returned (.tuple #[.int .i64 (P ds), .int .i64 (I ds)]) ∧ Below w.heap.size w w' := by
  have H := Lib.hid h
  have hn := h.1
  clear h
  go_enter Tryz.func36, Tryz.ntmps36
  go_wp2_with fail
  go_loopg [4, 5, 10] ds.length (SR w ds)
  case atStart => exact ⟨0, by omega, rfl, by simp [P_nil], by simp [I_nil], Below.refl _ _⟩
  case round =>
    obtain ⟨k, hk, rfl, rfl, rfl, hbr⟩ := hrel
    by_cases hlt : k < ds.length
    · obtain ⟨b, off, rfl, hc⟩ := H.out.2 (by omega)
      obtain ⟨c0, c1, c2, c3⟩ := hc k hlt
      replace c0 := cell_later hbr c0
      replace c1 := cell_later hbr c1
      replace c2 := cell_later hbr c2
      replace c3 := cell_later hbr c3
      have HP := Lib.hid (P_succ hlt)
      have HI := Lib.hid (I_succ hlt)
      have hz := hbr.size
      clear hc
      generalize ds[k]! = d at *
      generalize P (ds.take k) = p at *
      generalize I (ds.take k) = i at *
      go_wp2_with fail
      go_roundg (gk - 1)
      case measure => omega
      case rel => exact ⟨k + 1, by omega, by go_num, by rw [HP.out], by rw [HI.out], (hbr.alloc hz _)⟩
    · have hkn : k = ds.length := by omega
      rw [hkn, List.take_length]
      clear hkn
      go_wp2_with fail
      go_ret2
      exact ⟨rfl, hbr⟩
end Go.Proofs.YtfiplppdmedhkaaGreatDoor.Ln

namespace Go.Proofs.YtfiplppdmedhkaaGreatDoor.Ln
open Go.RowKit
open Go.Proofs.YtfiplppdmedhkaaGreatDoor

section
variable {α : Type} (enc : α → List Value) (k : Nat)
/-- Elements laid flat. -/
def flat (xs : List α) : List Value := xs.flatMap enc
variable {enc k}
theorem flat_len (hk : ∀ x, (enc x).length = k) : ∀ xs : List α, (flat enc xs).length = xs.length * k
  | [] => by simp [flat]
  | x :: xs => by
    have := flat_len hk xs
    unfold flat at *
    rw [List.flatMap_cons, List.length_append, this, hk, List.length_cons, Nat.add_mul, Nat.one_mul, Nat.add_comm]
theorem flat_get [Inhabited α] (hk : ∀ x, (enc x).length = k) : ∀ (xs : List α) (j i : Nat), j < xs.length → i < k → (flat enc xs)[j * k + i]? = (enc xs[j]!)[i]?
  | [], j, i, h, _ => absurd h (Nat.not_lt_zero _)
  | x :: xs, 0, i, _, hi => by
    unfold flat
    rw [List.flatMap_cons, Nat.zero_mul, Nat.zero_add, List.getElem?_append_left (by rw [hk]; exact hi)]
    rfl
  | x :: xs, j + 1, i, h, hi => by
    have ih := flat_get hk xs j i (by simpa using h) hi
    unfold flat at *
    rw [List.flatMap_cons, List.getElem?_append_right (by rw [hk, Nat.add_mul]; omega), hk, show (j + 1) * k + i - k = j * k + i by rw [Nat.add_mul]; omega, ih]
    simp
theorem flat_mem {Q : Value → Prop} (h : ∀ x, ∀ u ∈ enc x, Q u) : ∀ (xs : List α), ∀ u ∈ flat enc xs, Q u := by
  intro xs u hu
  unfold flat at hu
  obtain ⟨x, _, hx⟩ := List.mem_flatMap.1 hu
  exact h x u hx
/-- A row of structs that is read: its cells. -/
def RowIn (enc : α → List Value) (W : World) (a : Option Addr) (xs : List α) : Prop := 0 < xs.length → ∃ b off, a = some ⟨b, off, none⟩ ∧ ∀ j u, (flat enc xs)[j]? = some u → W.cell? ⟨b, off + j, none⟩ = some u
theorem RowIn.later {W w1 : World} {a : Option Addr} {xs : List α} (hb : Below W.heap.size W w1) (h : RowIn enc W a xs) : RowIn enc w1 a xs := fun h0 => by
  obtain ⟨b, off, ha, hc⟩ := h h0
  exact ⟨b, off, ha, fun j u hj => cell_later hb (hc j u hj)⟩
/-- A row of the call's own, known: which block, how much room. -/
def OwnR (enc : α → List Value) (k : Nat) (e : TypeId) (W : World) (B g c : Nat) (xs : List α) : Prop := B ≤ g ∧ c ≤ maxLen ∧ ∃ X : List Value, xs.length * k + X.length = c * k ∧ Bk.Blk W g ((flat enc xs ++ X).toArray) e
theorem OwnR.lt {e : TypeId} {W : World} {B g c : Nat} {xs : List α} (h : OwnR enc k e W B g c xs) : g < W.heap.size := h.2.2.elim fun _ h => h.2.lt
theorem OwnR.later {e : TypeId} {W w1 : World} {B g c : Nat} {xs : List α} (hb : Below W.heap.size W w1) (h : OwnR enc k e W B g c xs) : OwnR enc k e w1 B g c xs := by
  obtain ⟨h1, h2, X, h3, h4⟩ := h
  exact ⟨h1, h2, X, h3, h4.later hb⟩
theorem OwnR.row {e : TypeId} {W : World} {B g c : Nat} {xs : List α} (h : OwnR enc k e W B g c xs) : RowIn enc W (some ⟨g, 0, none⟩) xs := fun _ => by
  obtain ⟨_, _, X, _, h4⟩ := h
  refine ⟨g, 0, rfl, fun j u hj => ?_⟩
  rw [Nat.zero_add, h4.cell]
  have := (List.getElem?_eq_some_iff.1 hj).1
  simp [List.getElem?_append_left this, hj]
theorem OwnR.of {e : TypeId} {W : World} {B : Nat} {v : Value} {xs : List α} (h : W.ownsRow B e k v xs.length (flat enc xs)) (hv : v ≠ .slice none 0 0) : ∃ g c, v = .slice (some ⟨g, 0, none⟩) xs.length c ∧ OwnR enc k e W B g c xs := by
  obtain ⟨_, h | ⟨g, c, cur, h1, h2, h3, h4, h5, h6, h7⟩⟩ := h
  · exact absurd h.1 hv
  · refine ⟨g, c, h1, h2, h5, cur.toList.drop (xs.length * k), ?_, ?_⟩
    · have : xs.length * k ≤ c * k := Nat.mul_le_mul_right k h4
      simp only [List.length_drop, Array.length_toList, h6]; omega
    · rw [← h7, List.take_append_drop]
      exact h3
end

/-! ### installments -/
def denc (d : Du) : List Value := [.int .i64 d.no, .int .i64 d.day, .int .i64 d.pr, .int .i64 d.it]
theorem denc_len (d : Du) : (denc d).length = 4 := rfl
theorem denc_one (d : Du) : ∀ u ∈ denc d, u.oneCell' = true := by
  intro u hu
  simp only [denc, List.mem_cons, List.not_mem_nil, or_false] at hu
  rcases hu with rfl | rfl | rfl | rfl <;> rfl
theorem DuesIn.row {W : World} {a : Option Addr} {ds : List Du} (h : DuesIn W a ds) : RowIn denc W a ds := fun h0 => by
  obtain ⟨b, off, ha, hc⟩ := h.2 h0
  refine ⟨b, off, ha, fun m u hm => ?_⟩
  have hlt : m < ds.length * 4 := by
    have := (List.getElem?_eq_some_iff.1 hm).1
    rwa [flat_len denc_len] at this
  have hj : m / 4 < ds.length := by omega
  have hi : m % 4 < 4 := Nat.mod_lt _ (by omega)
  have e : m / 4 * 4 + m % 4 = m := by omega
  rw [← e, flat_get denc_len ds _ _ hj hi] at hm
  obtain ⟨c0, c1, c2, c3⟩ := hc (m / 4) hj
  rw [← e]
  generalize m / 4 = j at *
  generalize m % 4 = i at *
  have : i = 0 ∨ i = 1 ∨ i = 2 ∨ i = 3 := by omega
  rcases this with rfl | rfl | rfl | rfl
  · simp [denc] at hm; rw [← hm]; simpa using c0
  · simp [denc] at hm; rw [← hm]; simpa [Nat.add_assoc] using c1
  · simp [denc] at hm; rw [← hm]; simpa [Nat.add_assoc] using c2
  · simp [denc] at hm; rw [← hm]; simpa [Nat.add_assoc] using c3
theorem dues_of_row {W : World} {a : Option Addr} {ds : List Du} (hn : ds.length ≤ 2305843009213693951) (h : RowIn denc W a ds) : DuesIn W a ds := ⟨hn, fun h0 => by
  obtain ⟨b, off, ha, hc⟩ := h h0
  refine ⟨b, off, ha, fun j hj => ?_⟩
  have c : ∀ i, i < 4 → W.cell? ⟨b, off + (j * 4 + i), none⟩ = (denc ds[j]!)[i]? := fun i hi => by
    have hg := flat_get denc_len ds j i hj hi
    have : i < (denc ds[j]!).length := hi
    rw [List.getElem?_eq_getElem this] at hg ⊢
    exact hc _ _ hg
  have c0 := c 0 (by omega)
  have c1 := c 1 (by omega)
  have c2 := c 2 (by omega)
  have c3 := c 3 (by omega)
  simp only [denc, ← Nat.add_assoc] at c0 c1 c2 c3
  exact ⟨by simpa using c0, by simpa using c1, by simpa using c2, by simpa using c3⟩⟩
theorem due_info : (Tryz.prog.info? 71).map (fun i => (i.zero, i.size, i.bytes)) = some (some (.agg #[.int .i64 0, .int .i64 0, .int .i64 0, .int .i64 0]), 4, 32) := by kernel_rfl

set_option maxHeartbeats 2000000 in
/-- slices.Clone at installments. -/
theorem cloned_any (a : Option Addr) (cap : Nat) (ds : List Du) (w : World) (h : DuesIn w a ds) (hl : ds.length ≤ 100000) :
    Calls Tryz.prog 64 #[.slice a ds.length cap] w fun e w' => Below w.heap.size w w' ∧
      ((a = none ∧ ds = [] ∧ e = .returned (.slice none 0 0)) ∨ ∃ g c, e = .returned (.slice (some ⟨g, 0, none⟩) ds.length c) ∧ OwnR denc 4 71 w' w.heap.size g c ds) := by
  have HR := Lib.hid h.row
  cases a with
  | none =>
    have h0 : ds = [] := by
      rcases Nat.eq_zero_or_pos ds.length with h0 | h0
      · exact List.length_eq_zero_iff.1 h0
      · obtain ⟨b, off, ha, _⟩ := h.2 h0; cases ha
    subst h0
    clear h hl
    have q24 : ∀ (w : World) (n c n' c' : Nat), (binOp .eql 28 (.slice none n c) (.slice none n' c')).run Tryz.prog w = .ok (.bool true) w := fun w n c n' c' => Lib.run_eql_slice_nil w _ _ none n c n' c' Tryz.underlying28
    go_enter Tryz.func64, Tryz.ntmps64
    go_wp2_with fail
    go_ret
    exact ⟨Below.refl _ _, .inl (by simp)⟩
  | some ad =>
    obtain ⟨i, hi, hzz⟩ := Option.map_eq_some_iff.1 due_info
    simp only [Prod.mk.injEq] at hzz
    obtain ⟨hz, hsz, hby⟩ := hzz
    have HI := Lib.hid (And.intro hi (And.intro hz (And.intro hsz hby)))
    have hn := h.1
    clear h hi hz hsz hby
    have q24 : ∀ (w : World) (n c n' c' : Nat), (binOp .eql 28 (.slice (some ad) n c) (.slice none n' c')).run Tryz.prog w = .ok (.bool false) w := fun w n c n' c' => Lib.run_eql_slice_nil w _ _ (some ad) n c n' c' Tryz.underlying28
    go_enter Tryz.func64, Tryz.ntmps64
    go_wp2_with (at_builtin; refine wpList_append_own _ rfl _ _ 28 rfl w.heap.size 71 i (.agg #[.int .i64 0, .int .i64 0, .int .i64 0, .int .i64 0]) 4 32 Tryz.underlying28 HI.out.1 HI.out.2.1 HI.out.2.2.1 HI.out.2.2.2 rfl (by decide) _ _ _ rfl (World.ownsRow_made w #[] 0 (Nat.le_refl _) (Nat.zero_le _) (by simp)) ad ds.length cap (flat denc ds) rfl ?qc1 ?qc2 ?qc3 ?qc4 ?qc5 ?qc6 ?_)
    case qc1 => exact flat_len denc_len ds
    case qc2 =>
      intro j u hj
      have h0 : 0 < ds.length := by
        rcases Nat.eq_zero_or_pos ds.length with h0 | h0
        · rw [List.length_eq_zero_iff.1 h0] at hj; simp [flat] at hj
        · exact h0
      obtain ⟨b, off, ha, hc⟩ := HR.out h0
      obtain rfl := Option.some.inj ha
      rw [show (⟨b, off, none⟩ : Addr).add j = ⟨b, off + j, none⟩ from Go.WideShapes.add_plain ..]
      exact Lib.cell?_alloc_some _ (hc j u hj)
    case qc3 => exact flat_mem denc_one ds
    case qc4 => rw [Nat.zero_add]; unfold maxLen; omega
    case qc5 => rw [Nat.zero_add]; omega
    case qc6 => simp
    intro v' w1 hown hgrow hnl
    have hnn : v' ≠ .slice none 0 0 := hnl
    obtain ⟨g, c, rfl, ho⟩ := OwnR.of hown hnn
    go_wp2_with fail
    go_ret
    exact ⟨((Below.refl _ w).alloc (Nat.le_refl _) _).grown hgrow (by simp) (by intro k hk; simp [Value.ownBlock] at hk; omega), .inr ⟨g, c, rfl, ho⟩⟩
end Go.Proofs.YtfiplppdmedhkaaGreatDoor.Ln

namespace Go.Proofs.YtfiplppdmedhkaaGreatDoor.Ln
open Go.RowKit
open Go.Proofs.YtfiplppdmedhkaaGreatDoor

theorem out_any (l : Lo) (da ca : Option Addr) (dk ck : Nat) (w : World) (h : DuesIn w da l.ds) :
    Calls Tryz.prog 40 #[(.agg #[.int .i64 (l).id, .int .i64 (l).ac, .int .i64 (l).st, .int .i64 (l).pp, .int .i64 (l).pi, .int .i64 (l).fee, .int .i64 (l).pen, .int .i64 (l).chg, .int .i64 (l).prov, .int .i64 (l).loss, .int .i64 (l).rcv, .int .i64 ((l).tm).me, .int .i64 ((l).tm).pr, .int .i64 ((l).tm).ppm, .int .i64 ((l).tm).stt, .int .i64 ((l).tm).ev, .int .i64 ((l).tm).ct, .int .i64 ((l).tm).ba, .int .i64 ((l).tm).mo, .int .i64 ((l).tm).pen, .int .i64 ((l).tm).fe, .string ((l).tm).cal, .string ((l).tm).cur, .slice da (l).ds.length dk, .slice ca (l).cs.length ck])] w fun e w' => e = .returned (.int .i64 (wrap64 (P l.ds - l.pp))) ∧ Below w.heap.size w w' := by
  have HS := Lib.hid (fun (W : World) (hW : Below w.heap.size w W) => sums_any da dk l.ds W (h.later hW))
  clear h
  generalize P l.ds = p at *
  generalize I l.ds = i at *
  go_enter Tryz.func40, Tryz.ntmps40
  go_wp2_with fail
  refine (HS.out _ (by exact (Below.refl _ _).alloc (Nat.le_refl _) _)).mono ?_
  rintro e w1 ⟨rfl, hb⟩
  have hk := Bk.Blk.later (g := w.heap.size) hb (by first | with_reducible exact Bk.Blk.nw10 | with_reducible exact Bk.Blk.nw20 | with_reducible exact Bk.Blk.nw21 | with_reducible exact Bk.Blk.nw30 | with_reducible exact Bk.Blk.nw31 | with_reducible exact Bk.Blk.nw32 | with_reducible exact Bk.Blk.nw40 | with_reducible exact Bk.Blk.nw41 | with_reducible exact Bk.Blk.nw42 | with_reducible exact Bk.Blk.nw43)
  have hb1 : Below w.heap.size w w1 := bl2 hb ((Below.refl _ _).alloc (Nat.le_refl _) _)
  have c3 := hk.c3
  clear hk hb
  go_wp2_with fail
  go_ret
  exact ⟨rfl, hb1⟩

theorem ordB_step {ds : List Du} {k : Nat} (h : ∀ i, i < k → ds[i]!.no = (i : Int) + 1 ∧ (i = 0 ∨ ds[i - 1]!.day ≤ ds[i]!.day)) (hk : k < ds.length) : (ds[k]!.no = (k : Int) + 1 ∧ (k = 0 ∨ ds[k - 1]!.day ≤ ds[k]!.day) → ∀ i, i < k + 1 → ds[i]!.no = (i : Int) + 1 ∧ (i = 0 ∨ ds[i - 1]!.day ≤ ds[i]!.day)) ∧ (¬ (ds[k]!.no = (k : Int) + 1 ∧ (k = 0 ∨ ds[k - 1]!.day ≤ ds[k]!.day)) → ordB ds = false) := by
  refine ⟨fun hg i hi => ?_, fun hg => ?_⟩
  · by_cases e : i = k
    · subst e; exact hg
    · exact h i (by omega)
  · unfold ordB
    rw [List.all_eq_false]
    refine ⟨k, by simpa using hk, fun hh => hg ?_⟩
    simpa using hh
theorem ordB_all {ds : List Du} (h : ∀ i, i < ds.length → ds[i]!.no = (i : Int) + 1 ∧ (i = 0 ∨ ds[i - 1]!.day ≤ ds[i]!.day)) : ordB ds = true := by
  unfold ordB
  rw [List.all_eq_true]
  intro i hi
  have := h i (by simpa using hi)
  simpa using this
/-- Where the loop of ordered stands. -/
def OR (w : World) (ds : List Du) (g : Nat) (s7 : Value) (W : World) : Prop := ∃ k : Nat, k + g = ds.length ∧ s7 = .int .i64 k ∧ (∀ i, i < k → ds[i]!.no = (i : Int) + 1 ∧ (i = 0 ∨ ds[i - 1]!.day ≤ ds[i]!.day)) ∧ Below w.heap.size w W
end Go.Proofs.YtfiplppdmedhkaaGreatDoor.Ln

namespace Go.Proofs.YtfiplppdmedhkaaGreatDoor.Ln
open Go.RowKit
open Go.Proofs.YtfiplppdmedhkaaGreatDoor

/-- An installment as a value. -/
def dv (d : Du) : Value := .agg #[.int .i64 d.no, .int .i64 d.day, .int .i64 d.pr, .int .i64 d.it]
/-- What IndexFunc answers. -/
def Idx {α : Type} [Inhabited α] (p : α → Bool) (l : List α) (r : Int) : Prop := (r = -1 ∧ ∀ j, j < l.length → p l[j]! = false) ∨ ∃ k : Nat, k < l.length ∧ r = k ∧ p l[k]! = true ∧ ∀ j, j < k → p l[j]! = false
/-- A predicate that is called answers p, in every later world. -/
def Pred (g : Nat) (lb : Array Value) (p : Du → Bool) (w : World) : Prop := ∀ (d : Du) (W : World), Below w.heap.size w W → Calls Tryz.prog g (#[dv d] ++ lb) W fun e w' => e = .returned (.bool (p d)) ∧ Below W.heap.size W w'
/-- Where IndexFunc stands. -/
def XR (w : World) (p : Du → Bool) (ds : List Du) (g : Nat) (s8 : Value) (W : World) : Prop := ∃ k : Nat, k + g = ds.length ∧ s8 = .int .i64 k ∧ (∀ j, j < k → p ds[j]! = false) ∧ Below w.heap.size w W
set_option maxHeartbeats 2000000 in
theorem ixd_any (g : Nat) (lb : Array Value) (p : Du → Bool) (a : Option Addr) (cap : Nat) (ds : List Du) (w : World) (h : DuesIn w a ds) (eg : ∀ args w, (callFunc g args).run Tryz.prog w = .ok (.enter g args) w) (hp : Pred g lb p w) :
    Calls Tryz.prog 134 #[.slice a ds.length cap, .func (.func g) #[] lb] w fun e w' => ∃ r, e = .returned (.int .i64 r) ∧ Idx p ds r ∧ Below w.heap.size w w' := by
  have H := Lib.hid h
  have HP := Lib.hid hp
  have hn := h.1
  clear h hp
  go_enter Tryz.func134, Tryz.ntmps134
  go_wp2_with fail
  go_loopg [8] ds.length (XR w p ds)
  case atStart => exact ⟨0, by omega, rfl, fun j hj => by omega, Below.refl _ _⟩
  case round =>
    obtain ⟨k, hk, rfl, hall, hbr⟩ := hrel
    have HA := Lib.hid hall
    clear hall
    by_cases hlt : k < ds.length
    · obtain ⟨b, off, rfl, hc⟩ := H.out.2 (by omega)
      obtain ⟨c0, c1, c2, c3⟩ := hc k hlt
      replace c0 := cell_later hbr c0
      replace c1 := cell_later hbr c1
      replace c2 := cell_later hbr c2
      replace c3 := cell_later hbr c3
      have hcall := HP.out ds[k]! wr hbr
      unfold dv at hcall
      generalize hd : ds[k]! = d at *
      have HD := Lib.hid hd
      clear hc hd
      cases hv : p d
      · rw [hv] at hcall
        have HV := Lib.hid hv
        clear hv
        go_wp2_with fail
        refine hcall.mono ?_
        rintro e w1 ⟨rfl, hb⟩
        go_wp2_with fail
        go_roundg (gk - 1)
        case measure => omega
        case rel => exact ⟨k + 1, by omega, by go_num, fun j hj => by
          by_cases e : j = k
          · subst e; rw [HD.out]; exact HV.out
          · exact HA.out j (by omega), bl2 hb hbr⟩
      · rw [hv] at hcall
        have HV := Lib.hid hv
        clear hv
        go_wp2_with fail
        refine hcall.mono ?_
        rintro e w1 ⟨rfl, hb⟩
        go_wp2_with fail
        go_ret
        exact ⟨k, rfl, .inr ⟨k, hlt, rfl, by rw [HD.out]; exact HV.out, HA.out⟩, bl2 hb hbr⟩
    · go_wp2_with fail
      go_ret
      exact ⟨-1, rfl, .inl ⟨rfl, fun j hj => HA.out j (by omega)⟩, hbr⟩
theorem rg_no {l : Lo} (h : rangedB l = true) : 1 ≤ l.id ∧ 1000 ≤ l.ac ∧ 1 ≤ l.st ∧ l.st ≤ 3 ∧ 0 ≤ l.pp ∧ 0 ≤ l.pi ∧ 0 ≤ l.rcv ∧ dayB l.chg = true ∧ rateB l.tm.pen = true ∧ rateB l.tm.fe = true ∧ 1 ≤ l.ds.length ∧ l.ds.length ≤ 240 ∧ l.cs.length ≤ 64 ∧ amt l.fee = true ∧ amt l.pen = true ∧ amt l.prov = true ∧ amt l.loss = true ∧ l.ds.all dueB = true := by
  simp only [rangedB, Bool.and_eq_true, decide_eq_true_eq] at h
  obtain ⟨⟨⟨⟨⟨⟨⟨⟨⟨⟨⟨⟨⟨⟨⟨⟨⟨a1, a2⟩, a3⟩, a4⟩, a5⟩, a6⟩, a7⟩, a8⟩, a9⟩, b1⟩, b2⟩, b3⟩, b4⟩, b5⟩, b6⟩, b7⟩, b8⟩, b9⟩ := h
  exact ⟨a1, a2, a3, a4, a5, a6, a7, a8, a9, b1, b2, b3, b4, b5, b6, b7, b8, b9⟩
theorem rg_yes {l : Lo} (h : 1 ≤ l.id ∧ 1000 ≤ l.ac ∧ 1 ≤ l.st ∧ l.st ≤ 3 ∧ 0 ≤ l.pp ∧ 0 ≤ l.pi ∧ 0 ≤ l.rcv ∧ dayB l.chg = true ∧ rateB l.tm.pen = true ∧ rateB l.tm.fe = true ∧ 1 ≤ l.ds.length ∧ l.ds.length ≤ 240 ∧ l.cs.length ≤ 64 ∧ amt l.fee = true ∧ amt l.pen = true ∧ amt l.prov = true ∧ amt l.loss = true ∧ l.ds.all dueB = true) : rangedB l = true := by
  obtain ⟨a1, a2, a3, a4, a5, a6, a7, a8, a9, b1, b2, b3, b4, b5, b6, b7, b8, b9⟩ := h
  simp only [rangedB, Bool.and_eq_true, decide_eq_true_eq]
  exact ⟨⟨⟨⟨⟨⟨⟨⟨⟨⟨⟨⟨⟨⟨⟨⟨⟨a1, a2⟩, a3⟩, a4⟩, a5⟩, a6⟩, a7⟩, a8⟩, a9⟩, b1⟩, b2⟩, b3⟩, b4⟩, b5⟩, b6⟩, b7⟩, b8⟩, b9⟩
theorem rg_bad {l : Lo} (h : ¬ (rangedB l = true)) : rangedB l = false := by cases hv : rangedB l <;> simp_all
/-- The four amounts of a loan, by their place. -/
def am4 (l : Lo) : List Int := [l.fee, l.pen, l.prov, l.loss]
/-- Where the loop over the four amounts stands. -/
def NR (l : Lo) (W0 : World) (g : Nat) (s83 : Value) (W : World) : Prop := ∃ k : Nat, k + g = 4 ∧ s83 = .int .i64 k ∧ (∀ j, j < k → amt (am4 l)[j]! = true) ∧ W = W0
end Go.Proofs.YtfiplppdmedhkaaGreatDoor.Ln

namespace Go.Proofs.YtfiplppdmedhkaaGreatDoor.Ln
open Go.RowKit
open Go.Proofs.YtfiplppdmedhkaaGreatDoor

/-- A load of a block known whole, under a guard that says yes. -/
theorem load_guarded {P : Program} {ops : Array Oper} {rest : List Oper} {o : Oper} {a : Act} {w : World} {Q : Exit → Act → World → Prop} (ty : TypeId) (x : Operand) (ho : o.op = .load ty x) (hw : Region.wanted o (yielded ops a.tmps) = true)
    (g : Nat) (hx : a.eval x = .pointer (some ⟨g, 0, none⟩)) (t : TypeId) (cs : Array Value) (fr : Nat × Nat) (d : TypeDesc) (hg : w.heap[g]? = some (.cells cs t fr))
    (hu : P.underlying ty = some d) (hd : (match d with | .struct _ | .array _ _ => true | _ => false) = true) (hi : (P.info? ty).map (·.size) = some cs.size)
    (h : wpList P ops Q rest (a.put o.dst (.agg cs)) w) : wpList P ops Q (o :: rest) a w :=
  BigFrame.wpList_want hw fun _ hK => wp_load_row ty x ho g hx t cs fr d hg hu hd hi (hK _ _ h)
theorem chk_1 {l : Lo} (h : rangedB l = false) : chk l = 1 := by unfold chk; rw [h]; rfl
theorem chk_10 {l : Lo} (h : rangedB l = true) (h2 : ordB l.ds = false) : chk l = 10 := by unfold chk; rw [h, h2]; rfl
theorem chk_25 {l : Lo} (h : rangedB l = true) (h2 : ordB l.ds = true) (h3 : sumsB l = false) : chk l = 25 := by unfold chk; rw [h, h2, h3]; rfl
theorem chk_0 {l : Lo} (h : rangedB l = true) (h2 : ordB l.ds = true) (h3 : sumsB l = true) : chk l = 0 := by unfold chk; rw [h, h2, h3]; rfl
theorem sums_parts {l : Lo} (h : sumsB l = true) : l.pp ≤ P l.ds ∧ l.pi ≤ I l.ds ∧ l.rcv ≤ l.loss ∧ (l.cs.length ≠ 0 ∨ P l.ds = l.tm.pr) ∧ (l.st = 3 ∨ leftB l = decide (l.st = 1)) ∧ (l.st = 3 ∨ (l.loss = 0 ∧ l.rcv = 0)) := by
  simp only [sumsB, Bool.and_eq_true, Bool.or_eq_true, decide_eq_true_eq, beq_iff_eq] at h
  obtain ⟨⟨⟨⟨⟨c1, c2⟩, c3⟩, c4⟩, c5⟩, c6⟩ := h
  exact ⟨c1, c2, c3, c4, c5, c6⟩
theorem sums_mk {l : Lo} (h : l.pp ≤ P l.ds ∧ l.pi ≤ I l.ds ∧ l.rcv ≤ l.loss ∧ (l.cs.length ≠ 0 ∨ P l.ds = l.tm.pr) ∧ (l.st = 3 ∨ leftB l = decide (l.st = 1)) ∧ (l.st = 3 ∨ (l.loss = 0 ∧ l.rcv = 0))) : sumsB l = true := by
  obtain ⟨c1, c2, c3, c4, c5, c6⟩ := h
  simp only [sumsB, Bool.and_eq_true, Bool.or_eq_true, decide_eq_true_eq, beq_iff_eq]
  exact ⟨⟨⟨⟨⟨c1, c2⟩, c3⟩, c4⟩, c5⟩, c6⟩
theorem sums_bad {l : Lo} (h : ¬ (sumsB l = true)) : sumsB l = false := by cases hv : sumsB l <;> simp_all
/-- The ways through the last rules of Check: what each finds (25 or 0). f: something is left; p, i: the sums; n: how many changes. -/
inductive Way (pp p pi i rcv loss pr st : Int) (n : Nat) (f : Bool) : Int → Prop where
  | a : p < pp → Way pp p pi i rcv loss pr st n f 25
  | b : pp ≤ p → i < pi → Way pp p pi i rcv loss pr st n f 25
  | c : pp ≤ p → pi ≤ i → loss < rcv → Way pp p pi i rcv loss pr st n f 25
  | d : pp ≤ p → pi ≤ i → rcv ≤ loss → n = 0 → p ≠ pr → Way pp p pi i rcv loss pr st n f 25
  | e : pp ≤ p → pi ≤ i → rcv ≤ loss → (n = 0 ∧ p = pr) ∨ n ≠ 0 → (st = 2 ∧ f = true) ∨ (st = 1 ∧ f = false) → Way pp p pi i rcv loss pr st n f 25
  | g : pp ≤ p → pi ≤ i → rcv ≤ loss → (n = 0 ∧ p = pr) ∨ n ≠ 0 → (st = 2 ∧ f = false) ∨ (st = 1 ∧ f = true) → (loss ≠ 0) ∨ (loss = 0 ∧ rcv ≠ 0) → Way pp p pi i rcv loss pr st n f 25
  | k : pp ≤ p → pi ≤ i → rcv ≤ loss → (n = 0 ∧ p = pr) ∨ n ≠ 0 → (st = 2 ∧ f = false) ∨ (st = 1 ∧ f = true) → loss = 0 → rcv = 0 → Way pp p pi i rcv loss pr st n f 0
  | m : pp ≤ p → pi ≤ i → rcv ≤ loss → (n = 0 ∧ p = pr) ∨ n ≠ 0 → st = 3 → Way pp p pi i rcv loss pr st n f 0
theorem way_of (l : Lo) (h : rangedB l = true) (h2 : ordB l.ds = true) : Way l.pp (P l.ds) l.pi (I l.ds) l.rcv l.loss l.tm.pr l.st l.cs.length (leftB l) (chk l) := by
  have hr := rg_no h
  by_cases ca : P l.ds < l.pp
  · rw [chk_25 h h2 (sums_bad fun hh => by have := (sums_parts hh).1; omega)]; exact .a ca
  by_cases cb : I l.ds < l.pi
  · rw [chk_25 h h2 (sums_bad fun hh => by have := (sums_parts hh).2.1; omega)]; exact .b (by omega) cb
  by_cases cc : l.loss < l.rcv
  · rw [chk_25 h h2 (sums_bad fun hh => by have := (sums_parts hh).2.2.1; omega)]; exact .c (by omega) (by omega) cc
  by_cases cd : l.cs.length = 0 ∧ P l.ds ≠ l.tm.pr
  · rw [chk_25 h h2 (sums_bad fun hh => by rcases (sums_parts hh).2.2.2.1 with h | h; exact h cd.1; exact cd.2 h)]; exact .d (by omega) (by omega) (by omega) cd.1 cd.2
  have ce : (l.cs.length = 0 ∧ P l.ds = l.tm.pr) ∨ l.cs.length ≠ 0 := by omega
  by_cases cf : l.st = 3
  · rw [chk_0 h h2 (sums_mk ⟨by omega, by omega, by omega, by omega, .inl cf, .inl cf⟩)]; exact .m (by omega) (by omega) (by omega) ce cf
  cases hv : leftB l
  · by_cases cg : l.st = 1
    · rw [chk_25 h h2 (sums_bad fun hh => by
        rcases (sums_parts hh).2.2.2.2.1 with h | h
        · exact cf h
        · rw [hv, cg] at h; simp at h)]
      exact .e (by omega) (by omega) (by omega) ce (.inr ⟨cg, rfl⟩)
    · have cs : l.st = 2 := by omega
      by_cases cl : l.loss = 0 ∧ l.rcv = 0
      · rw [chk_0 h h2 (sums_mk ⟨by omega, by omega, by omega, by omega, .inr (by rw [hv, cs]; rfl), .inr cl⟩)]; exact .k (by omega) (by omega) (by omega) ce (.inl ⟨cs, rfl⟩) cl.1 cl.2
      · rw [chk_25 h h2 (sums_bad fun hh => by rcases (sums_parts hh).2.2.2.2.2 with h | h; exact cf h; exact cl h)]; exact .g (by omega) (by omega) (by omega) ce (.inl ⟨cs, rfl⟩) (by omega)
  · by_cases cg : l.st = 2
    · rw [chk_25 h h2 (sums_bad fun hh => by
        rcases (sums_parts hh).2.2.2.2.1 with h | h
        · exact cf h
        · rw [hv, cg] at h; simp at h)]
      exact .e (by omega) (by omega) (by omega) ce (.inl ⟨cg, rfl⟩)
    · have cs : l.st = 1 := by omega
      by_cases cl : l.loss = 0 ∧ l.rcv = 0
      · rw [chk_0 h h2 (sums_mk ⟨by omega, by omega, by omega, by omega, .inr (by rw [hv, cs]; rfl), .inr cl⟩)]; exact .k (by omega) (by omega) (by omega) ce (.inr ⟨cs, rfl⟩) cl.1 cl.2
      · rw [chk_25 h h2 (sums_bad fun hh => by rcases (sums_parts hh).2.2.2.2.2 with h | h; exact cf h; exact cl h)]; exact .g (by omega) (by omega) (by omega) ce (.inr ⟨cs, rfl⟩) (by omega)

end Go.Proofs.YtfiplppdmedhkaaGreatDoor.Ln
