/-
 First of chapter 35's reference; sums of the first installments.
 A whole slice appended to a slice of the call's own.
-/
import Derived.Test.YtaanicginfjgdaaGreatDoorPpa
import Derived.Test.YtaanicginfjgdaaGreatDoorSr
import Derived.Test.YtaanicginfjgdaaGreatDoorLc
import Derived.Deep.AppendLies
namespace Go.Proofs.YtaanicginfjgdaaGreatDoor.Pp
open Go Go.RowKit
open Go.Proofs.YtaanicginfjgdaaGreatDoor
open Go.Proofs.YtaanicginfjgdaaGreatDoor.Ln (Tm Ch Du Lo Pa sum prs its P I due chk Ok ok_iff wrap_in wrap_add powed zLo LoIn DuesIn RowIn OwnR denc denc_len cenc cenc_len penc penc_len tenc flat flat_len Dok dues_of_row bl2 SB SB.mono SQ SQ.mono take_at one_at two_at call_at call_wp call_one call_pv value_wp yields_load_row Blk_setRow_same Blk_setRow_ne Below_setRow dues_setRow row_row one25 load_guarded results2_cell dues_lt rowc_lt rangeAt_later tk ts z0 z1 z3 z4 z5)
open Go.Proofs.YtaanicginfjgdaaGreatDoor.Rd (gd pcV pcE Stp)
open Go.Proofs.YtaanicginfjgdaaGreatDoor.Kl (Cl CalIn skE)
set_option linter.unusedSimpArgs false
set_option linter.unusedVariables false
set_option maxRecDepth 100000

theorem P_succ {ds : List Du} {i : Nat} (h : i < ds.length) : P (ds.take (i + 1)) = wrap64 (P (ds.take i) + ds[i]!.pr) := by
 unfold P prs
 rw [List.take_add_one, List.map_append, Ln.sum_append, List.getElem?_eq_getElem h, getElem!_pos ds i h]
 simp [sum, wrap_add]
theorem I_succ {ds : List Du} {i : Nat} (h : i < ds.length) : I (ds.take (i + 1)) = wrap64 (I (ds.take i) + ds[i]!.it) := by
 unfold I its
 rw [List.take_add_one, List.map_append, Ln.sum_append, List.getElem?_eq_getElem h, getElem!_pos ds i h]
 simp [sum, wrap_add]
def FiR (w1 : World) (l : Lo) (day : Int) (g : Nat) (s5 : Value) (W : World) : Prop := ∃ i : Nat, i + g = atN l day ∧ s5 = .int .i64 i ∧ w1 = W
set_option maxHeartbeats 8000000 in
theorem first35_any (l : Lo) (da ca : Option Addr) (dk ck : Nat) (day : Int) (w : World) (h : DuesIn w da l.ds) (ho : Or l.ds) (hn : l.ds.length ≤ 100000) : Calls Tryz.prog 37 #[(.agg #[.int .i64 (l).id, .int .i64 (l).ac, .int .i64 (l).st, .int .i64 (l).pp, .int .i64 (l).pi, .int .i64 (l).fee, .int .i64 (l).pen, .int .i64 (l).chg, .int .i64 (l).prov, .int .i64 (l).loss, .int .i64 (l).rcv, .int .i64 ((l).tm).me, .int .i64 ((l).tm).pr, .int .i64 ((l).tm).ppm, .int .i64 ((l).tm).stt, .int .i64 ((l).tm).ev, .int .i64 ((l).tm).ct, .int .i64 ((l).tm).ba, .int .i64 ((l).tm).mo, .int .i64 ((l).tm).pen, .int .i64 ((l).tm).fe, .string ((l).tm).cal, .string ((l).tm).cur, .slice da (l).ds.length dk, .slice ca (l).cs.length ck]), .int .i64 day] w fun e w' => e = .returned (.int .i64 (atN l day)) ∧ Below w.heap.size w w' := by
 have cw : Below w.heap.size w (w.alloc (.cells #[.int .i64 (l).id, .int .i64 (l).ac, .int .i64 (l).st, .int .i64 (l).pp, .int .i64 (l).pi, .int .i64 (l).fee, .int .i64 (l).pen, .int .i64 (l).chg, .int .i64 (l).prov, .int .i64 (l).loss, .int .i64 (l).rcv, .int .i64 ((l).tm).me, .int .i64 ((l).tm).pr, .int .i64 ((l).tm).ppm, .int .i64 ((l).tm).stt, .int .i64 ((l).tm).ev, .int .i64 ((l).tm).ct, .int .i64 ((l).tm).ba, .int .i64 ((l).tm).mo, .int .i64 ((l).tm).pen, .int .i64 ((l).tm).fe, .string ((l).tm).cal, .string ((l).tm).cur, .slice da (l).ds.length dk, .slice ca (l).cs.length ck] 27)) := (Below.refl _ _).alloc (Nat.le_refl _) _
 have k0 : Bk.Blk (w.alloc (.cells #[.int .i64 (l).id, .int .i64 (l).ac, .int .i64 (l).st, .int .i64 (l).pp, .int .i64 (l).pi, .int .i64 (l).fee, .int .i64 (l).pen, .int .i64 (l).chg, .int .i64 (l).prov, .int .i64 (l).loss, .int .i64 (l).rcv, .int .i64 ((l).tm).me, .int .i64 ((l).tm).pr, .int .i64 ((l).tm).ppm, .int .i64 ((l).tm).stt, .int .i64 ((l).tm).ev, .int .i64 ((l).tm).ct, .int .i64 ((l).tm).ba, .int .i64 ((l).tm).mo, .int .i64 ((l).tm).pen, .int .i64 ((l).tm).fe, .string ((l).tm).cal, .string ((l).tm).cur, .slice da (l).ds.length dk, .slice ca (l).cs.length ck] 27)) w.heap.size _ 27 := Bk.Blk.nw10
 have HD := Lib.hid ((h.later cw).row)
 have HO := Lib.hid ho
 clear h ho
 have hal := at_le l day
 have l23 := k0.c23
 go_enter Tryz.func37, Tryz.ntmps37
 go_upto_region 2 with fail
 generalize (w.alloc (.cells _ 27)) = w1 at *
 go_loopg [5] (atN l day) (FiR w1 l day)
 case atStart => exact ⟨0, by omega, rfl, rfl⟩
 case round =>
  obtain ⟨i, hi, rfl, rfl⟩ := hrel
  by_cases hlt : i < l.ds.length
  ·obtain ⟨b, off, rfl, hc⟩ := HD.out.mid denc_len (by omega)
   have q1 : w1.cell? ⟨b, off + i * 4 + 1, none⟩ = some (.int .i64 (l.ds[i]!).day) := hc i hlt 1 _ rfl
   have hat := at_iff HO.out (day := day) hlt
   clear hc
   generalize l.ds[i]!.day = d at *
   by_cases hd : d ≤ day
   ·have hia := hat.1 hd
    clear hat
    go_wp2_with fail
    go_roundg (gk - 1)
    case measure => omega
    case rel => exact ⟨i + 1, by omega, by go_num, rfl⟩
   ·have hia : atN l day = i := by have := fun e => hd (hat.2 e); omega
    have HIA := Lib.hid hia
    clear hat hia hi hal
    go_wp2_with fail
    go_ret
    exact ⟨by rw [HIA.out]; rfl, cw⟩
  ·have hia : atN l day = i := by omega
   have HIA := Lib.hid hia
   clear hia hi hal
   go_wp2_with fail
   go_ret
   exact ⟨by rw [HIA.out]; rfl, cw⟩
end Go.Proofs.YtaanicginfjgdaaGreatDoor.Pp

namespace Go.Proofs.YtaanicginfjgdaaGreatDoor.Sr
open Go Go.RowKit
open Go.Proofs.YtaanicginfjgdaaGreatDoor
open Go.Proofs.YtaanicginfjgdaaGreatDoor.Ln (flat flat_len flat_get RowIn OwnR Du denc denc_one denc_len value_wp)
set_option linter.unusedVariables false

theorem blk_low {W W' : World} {B g : Nat} {cs : Array Value} {t : TypeId} (h : Bk.Blk W g cs t) (hg : g < B) (hb : Below B W W') : Bk.Blk W' g cs t := (hb.block _ hg).trans h
section
variable {α : Type} {enc : α → List Value} {k : Nat} {T : TypeId}
theorem gv_made (W : World) {B : Nat} (hB : B ≤ W.heap.size) : GV enc k T (W.alloc (.cells #[] T)) B (.slice (some ⟨W.heap.size, 0, none⟩) 0 0) [] :=
 ⟨by
  have h := World.ownsRow_made (base := B) W (e := T) #[] 0 (size := k) hB (Nat.zero_le _) (by simp)
  simpa [flat] using h, some ⟨W.heap.size, 0, none⟩, 0, rfl⟩
theorem gv_low {W W' : World} {B B' : Nat} {v : Value} {xs : List α} (h : GV enc k T W B v xs) (hb : Below B' W W') (hlt : ∀ j, v.ownBlock = some j → j < B') : GV enc k T W' B v xs := by
 obtain ⟨⟨hl, ho⟩, hs⟩ := h
 refine ⟨⟨hl, ?_⟩, hs⟩
 rcases ho with ho | ⟨g, cap, cur, rfl, h2, h3, h4⟩
 ·exact .inl ho
 ·exact .inr ⟨g, cap, cur, rfl, h2, (hb.block _ (hlt g rfl)).trans h3, h4⟩
theorem rows_wp {ST : TypeId} {z : Value} {bytes : Nat} (hk : ∀ x, (enc x).length = k) (he : ∀ x, ∀ u ∈ enc x, u.oneCell' = true) (k0 : 0 < k) (kb : bytes ≤ 1024) (hzs : z.cells.size = k)
  (hinfo : (Tryz.prog.info? T).map (fun i => (i.zero, i.size, i.bytes)) = some (some z, k, bytes)) (hu : Tryz.prog.underlying ST = some (.slice T))
  {o : Oper} {a : Act} {K : Act → World → Prop} {Q : Exit → Act → World → Prop} {W : World} {B g c : Nat} {xs : List α} (ys : List α) (hgd : o.guard = none) (s y : Operand)
  (ho : o.op = .call { callee := .builtin .append, args := #[s, y], argTypes := #[ST, ST] }) (hs : a.eval s = .slice (some ⟨g, 0, none⟩) xs.length c) (hr : GV enc k T W B (.slice (some ⟨g, 0, none⟩) xs.length c) xs)
  (ay : Option Addr) (cy : Nat) (hy : a.eval y = .slice ay ys.length cy) (hyr : RowIn enc W ay ys) (hl : xs.length + ys.length ≤ 1000000) (hB : B ≤ W.heap.size)
  (h : ∀ g' c' w', GV enc k T w' B (.slice (some ⟨g', 0, none⟩) (xs ++ ys).length c') (xs ++ ys) → Below B W w' → W.grownBy w' (some g) ∨ w' = W → K (a.put o.dst (.slice (some ⟨g', 0, none⟩) (xs ++ ys).length c')) w') : Oper.wp Tryz.prog o a W K Q := by
 obtain ⟨i, hi, hzz⟩ := Option.map_eq_some_iff.1 hinfo
 simp only [Prod.mk.injEq] at hzz
 obtain ⟨hz, hsz, hby⟩ := hzz
 by_cases h0 : 0 < ys.length
 ·have hw : Region.wanted o (yielded #[] a.tmps) = true := by simp [Region.wanted, hgd]
  obtain ⟨b, off, rfl, hc⟩ := hyr h0
  have H := step_append_lies (P := Tryz.prog) (ops := #[]) (o := o) (a := a) (w := W) (K := K) (Q := Q) (E := False) hgd s y ST ho B T i z k bytes hu hi hz hsz hby hzs k0 _ xs.length (flat enc xs) hs hr.1 ⟨b, off, none⟩ ys.length cy (flat enc ys) hy (flat_len hk ys)
   (fun j u hj => by rw [show (⟨b, off, none⟩ : Addr).add j = ⟨b, off + j, none⟩ from Go.WideShapes.add_plain ..]; exact hc j u hj) (Ln.flat_mem he ys) h0 (by unfold maxLen; omega)
   (by calc (xs.length + ys.length) * bytes ≤ 1000000 * 1024 := Nat.mul_le_mul hl kb
      _ ≤ 140737488355328 := by decide) hB _ rfl (fun g' c' w' hown hgr hat hlt => by
    have e : flat enc xs ++ flat enc ys = flat enc (xs ++ ys) := by simp [flat]
    rw [e, show xs.length + ys.length = (xs ++ ys).length by simp] at hown
    rw [show xs.length + ys.length = (xs ++ ys).length by simp]
    exact h g' c' w' ⟨hown, _, _, rfl⟩ ((Below.refl _ _).grown hgr hB (fun j hj => (hr.lt j hj).2)) (.inl hgr))
  rw [if_pos hw] at H
  exact H
 ·obtain rfl : ys = [] := List.eq_nil_of_length_eq_zero (by omega)
  have hle : xs.length ≤ c := by
   rcases hr.1.2 with ⟨e, _⟩ | ⟨_, _, _, e, _, _, h4, _⟩
   ·cases e
   ·obtain ⟨_, _, rfl⟩ := by simpa using e
    exact h4
  have hrun : (Builtin.append_ #[ST, ST] o.type #[.slice (some ⟨g, 0, none⟩) xs.length c, .slice ay 0 cy]).run Tryz.prog W = .ok (.slice (some ⟨g, 0, none⟩) xs.length c) W := by
   cases ay <;> simp [Builtin.append_, run_underlying hu, Go.sizeOf, typeInfo, hi, hle, storeCells, loadCells, Builtin.lenOf, Builtin.firstCells, loadCellsFrom]
  have H := h g c W (by rw [List.append_nil]; exact hr) (Below.refl _ _) (.inr rfl)
  rw [List.append_nil] at H
  have hy' : a.eval y = .slice ay 0 cy := hy
  unfold Oper.wp
  simp [execOp, ho, resolve, invoke, builtin, hs, hy', hrun, Result.andThen]
  exact H
end
theorem dues_wp {o : Oper} {a : Act} {K : Act → World → Prop} {Q : Exit → Act → World → Prop} {W : World} {B g c : Nat} {xs : List Du} (ys : List Du) (hgd : o.guard = none) (s y : Operand)
  (ho : o.op = .call { callee := .builtin .append, args := #[s, y], argTypes := #[24, 24] }) (hs : a.eval s = .slice (some ⟨g, 0, none⟩) xs.length c) (hr : DV W B (.slice (some ⟨g, 0, none⟩) xs.length c) xs)
  (ay : Option Addr) (cy : Nat) (hy : a.eval y = .slice ay ys.length cy) (hyr : RowIn denc W ay ys) (hl : xs.length + ys.length ≤ 1000000) (hB : B ≤ W.heap.size)
  (h : ∀ g' c' w', DV w' B (.slice (some ⟨g', 0, none⟩) (xs ++ ys).length c') (xs ++ ys) → Below B W w' → W.grownBy w' (some g) ∨ w' = W → K (a.put o.dst (.slice (some ⟨g', 0, none⟩) (xs ++ ys).length c')) w') : Oper.wp Tryz.prog o a W K Q :=
 rows_wp denc_len denc_one (by decide) (by decide) rfl Ln.due_info Tryz.underlying24 ys hgd s y ho hs hr ay cy hy hyr hl hB h
theorem parts_wp {o : Oper} {a : Act} {K : Act → World → Prop} {Q : Exit → Act → World → Prop} {W : World} {B g c : Nat} {xs : List Ln.Pa} (ys : List Ln.Pa) (hgd : o.guard = none) (s y : Operand)
  (ho : o.op = .call { callee := .builtin .append, args := #[s, y], argTypes := #[34, 34] }) (hs : a.eval s = .slice (some ⟨g, 0, none⟩) xs.length c) (hr : GV Ln.penc 2 65 W B (.slice (some ⟨g, 0, none⟩) xs.length c) xs)
  (ay : Option Addr) (cy : Nat) (hy : a.eval y = .slice ay ys.length cy) (hyr : RowIn Ln.penc W ay ys) (hl : xs.length + ys.length ≤ 1000000) (hB : B ≤ W.heap.size)
  (h : ∀ g' c' w', GV Ln.penc 2 65 w' B (.slice (some ⟨g', 0, none⟩) (xs ++ ys).length c') (xs ++ ys) → Below B W w' → W.grownBy w' (some g) ∨ w' = W → K (a.put o.dst (.slice (some ⟨g', 0, none⟩) (xs ++ ys).length c')) w') : Oper.wp Tryz.prog o a W K Q :=
 rows_wp Ln.penc_len Ln.penc_one (by decide) (by decide) rfl Ln.part_info Tryz.underlying34 ys hgd s y ho hs hr ay cy hy hyr hl hB h
end Go.Proofs.YtaanicginfjgdaaGreatDoor.Sr
