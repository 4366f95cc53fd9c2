/-
  Add, Cancel, Due of standing orders: the program's.
-/
import Derived.Test.YtdlmoijeflchgaaSo4
import Derived.Test.YtdlmoijeflchgaaSo2
import Derived.Test.YtdlmoijeflchgaaSr
import Derived.Maps.AppendAt
import Derived.Deep.RegionHeld3
namespace Go.Proofs.Ytdlmoijeflchgaa.So
open Go Go.RowKit
open Go.Proofs.Ytdlmoijeflchgaa
open Go.Proofs.Ytdlmoijeflchgaa.Ln (flat flat_len RowIn OwnR bl2 SQ SQ.mono take_at one_at two_at call_wp value_wp yields_load_row)
open Go.Proofs.Ytdlmoijeflchgaa.Sr (GV GV.row GV.nil OwnR.gv)
set_option linter.unusedSimpArgs false
set_option linter.unusedVariables false
set_option maxRecDepth 100000

/-- A list of orders and an error, as the functions return them. -/
def LOut (m : List Od) (E : Int) (w : World) (e : Ending) (w' : World) : Prop := ∃ a cap, e = .returned (.tuple #[.slice a m.length cap, .int .i64 E]) ∧ RowIn oenc w' a m ∧ Below w.heap.size w w'
theorem lout_no {m : List Od} {E : Int} {w w' : World} (hm : m = []) (hb : Below w.heap.size w w') : LOut m E w (.returned (.tuple #[.slice none 0 0, .int .i64 E])) w' := by
  subst hm
  exact ⟨none, 0, rfl, fun h => by simp at h, hb⟩
/-- What the functions return. -/
def adL (l : List Od) (o : Od) : List Od := if adE l o = 0 then l ++ [o] else []
def caR (l : List Od) (id : Int) : List Od := if caE l id = 0 then caL l id else []
noncomputable def dnR (l : List Od) (id day : Int) (ok : Bool) (c : Kl.Cl) : List Od := if dnE l id day = 0 then dnL l id ok c else []
theorem adE_1 {l : List Od} {o : Od} (h : 0 < l.length ∧ o.id ≤ l[l.length - 1]!.id) : adE l o = 10 := if_pos h
theorem adE_2 {l : List Od} {o : Od} (h : ¬ (0 < l.length ∧ o.id ≤ l[l.length - 1]!.id)) (h2 : 64 ≤ l.length) : adE l o = 5 := (if_neg h).trans (if_pos h2)
theorem adE_3 {l : List Od} {o : Od} (h : ¬ (0 < l.length ∧ o.id ≤ l[l.length - 1]!.id)) (h2 : ¬ 64 ≤ l.length) : adE l o = odE o := (if_neg h).trans (if_neg h2)
theorem adL_no {l : List Od} {o : Od} {E : Int} (h : adE l o = E) (h0 : E ≠ 0) : adL l o = [] := if_neg (by rw [h]; exact h0)
theorem adL_yes {l : List Od} {o : Od} (h : adE l o = 0) : adL l o = l ++ [o] := if_pos h
/-- A cloned list, nil or in a block of its own. -/
theorem clg_any (a : Option Addr) (cap : Nat) (l : List Od) (w : World) (h : RowIn oenc w a l) (hl : l.length ≤ 100000) : Calls Try.prog 32 #[.slice a l.length cap] w fun e w' => ∃ v, e = .returned v ∧ GV oenc 10 23 w' w.heap.size v l ∧ Below w.heap.size w w' :=
  (cloneo_any a cap l w h hl).mono fun e w' hh => by
    rcases hh with ⟨hb, ⟨_, h0, he⟩ | ⟨g, c, he, ho⟩⟩
    · subst h0
      exact ⟨_, he, GV.nil _ _, hb⟩
    · exact ⟨_, he, OwnR.gv oenc_len (by decide) ho, hb⟩
/-- One order is appended, at an operation. -/
theorem wp_app_ord {o : Oper} {a : Act} {K : Act → World → Prop} {Q : Exit → Act → World → Prop} {W : World} {B : Nat} {v : Value} {xs : List Od} (x : Od) (s y : Operand)
    (ho : o.op = .call { callee := .builtin .append, args := #[s, y], argTypes := #[34, 34] }) (hs : a.eval s = v) (hr : GV oenc 10 23 W B v xs) (gx : Nat)
    (hy : a.eval y = .slice (some ⟨gx, 0, none⟩) 1 1) (hb : Bk.Blk W gx (oenc x).toArray 23) (hl : xs.length ≤ 1000000) (hB : B ≤ W.heap.size)
    (h : ∀ v' w', GV oenc 10 23 w' B v' (xs ++ [x]) → W.grownBy w' v.ownBlock → K (a.put o.dst v') w') : Oper.wp Try.prog o a W K Q := by
  obtain ⟨i, hi, hzz⟩ := Option.map_eq_some_iff.1 ord_info
  simp only [Prod.mk.injEq] at hzz
  obtain ⟨hz, hsz, hby⟩ := hzz
  obtain ⟨v', w', hrun, h2, h3, h4, _⟩ := run_append_own_at (P := Try.prog) W B 34 o.type 23 i (.agg #[.int .i64 0, .int .i64 0, .int .i64 0, .int .i64 0, .int .i64 0, .int .i64 0, .int .i64 0, .int .i64 0, .int .i64 0, .string .empty]) 10 88 Try.underlying34 hi hz hsz hby rfl (by decide) v xs.length (flat oenc xs) hr.1 ⟨gx, 0, none⟩ 1 1 (oenc x) rfl (fun j u hj => by
    rw [show (⟨gx, 0, none⟩ : Addr).add j = ⟨gx, 0 + j, none⟩ from Go.WideShapes.add_plain .., Nat.zero_add, hb.cell]
    simpa using hj) (oenc_one x) (by unfold maxLen; omega) (by omega) hB
  unfold Oper.wp execOp
  simp only [ho, resolve, invoke, builtin, Sem.run_bind, Sem.run_pure, Result.andThen_ok, List.map_toArray, List.map_cons, List.map_nil, hs, hy, hrun]
  refine h v' w' ?_ h3
  have e : flat oenc xs ++ oenc x = flat oenc (xs ++ [x]) := by simp [flat]
  rw [e, show xs.length + 1 = (xs ++ [x]).length by simp] at h2
  refine ⟨h2, ?_⟩
  have hn : v' ≠ .slice none 0 0 := fun hv => by have := (h4.1 hv).2; omega
  obtain ⟨g, c, rfl, _⟩ := OwnR.of h2 hn
  exact ⟨_, _, rfl⟩
theorem sq_grown {w0 W w' : World} {g : Nat} {cs : Array Value} {t : TypeId} {r : Option Nat} {B : Nat} (hS : SQ w0 g cs t W) (hgr : W.grownBy w' r) (hr : ∀ j, r = some j → B ≤ j) (hB : w0.heap.size ≤ B) (hg : g < w0.heap.size) : SQ w0 g cs t w' := by
  have hs := hS.1.lt
  have hbs := Below.size hS.2
  refine ⟨(hgr.block g hs (fun e => by have := hr g e.symm; omega)).trans hS.1, ?_⟩
  exact Below.grown hS.2 hgr hbs (fun j hj => Nat.le_trans hB (hr j hj))
set_option maxHeartbeats 8000000 in
theorem add_any (a : Option Addr) (cap : Nat) (l : List Od) (o : Od) (w : World) (h : RowIn oenc w a l) (hl : l.length ≤ 100000) (hs : o.tx.size ≤ maxLen) : Calls Try.prog 16 #[.slice a l.length cap, (.agg #[.int .i64 (o).id, .int .i64 (o).fr, .int .i64 (o).too, .int .i64 (o).am, .int .i64 (o).day, .int .i64 (o).ev, .int .i64 (o).an, .int .i64 (o).un, .int .i64 (o).tr, .string (o).tx])] w (LOut (adL l o) (adE l o) w) := by
  have cw : Below w.heap.size w (w.alloc (.cells #[.int .i64 (o).id, .int .i64 (o).fr, .int .i64 (o).too, .int .i64 (o).am, .int .i64 (o).day, .int .i64 (o).ev, .int .i64 (o).an, .int .i64 (o).un, .int .i64 (o).tr, .string (o).tx] 23)) := (Below.refl _ _).alloc (Nat.le_refl _) _
  have k0 : Bk.Blk (w.alloc (.cells #[.int .i64 (o).id, .int .i64 (o).fr, .int .i64 (o).too, .int .i64 (o).am, .int .i64 (o).day, .int .i64 (o).ev, .int .i64 (o).an, .int .i64 (o).un, .int .i64 (o).tr, .string (o).tx] 23)) w.heap.size #[.int .i64 (o).id, .int .i64 (o).fr, .int .i64 (o).too, .int .i64 (o).am, .int .i64 (o).day, .int .i64 (o).ev, .int .i64 (o).an, .int .i64 (o).un, .int .i64 (o).tr, .string (o).tx] 23 := Bk.Blk.nw10
  have hr := h.later cw
  clear h
  go_enter Try.func16, Try.ntmps16
  go_upto_region 1 with fail
  generalize (w.alloc (.cells #[.int .i64 (o).id, .int .i64 (o).fr, .int .i64 (o).too, .int .i64 (o).am, .int .i64 (o).day, .int .i64 (o).ev, .int .i64 (o).an, .int .i64 (o).un, .int .i64 (o).tr, .string (o).tx] 23)) = w1 at *
  have cw1 := cw
  clear cw
  by_cases h0 : 0 < l.length
  · obtain ⟨b, off, rfl, hcc⟩ := row_at hr h0
    have e0 : w1.cell? ⟨b, off + (l.length - 1) * 10, none⟩ = some (.int .i64 l[l.length - 1]!.id) := hcc (l.length - 1) (by omega) 0 _ rfl
    have l0 := k0.c0
    generalize hx : l[l.length - 1]!.id = xi at *
    have HX := Lib.hid hx
    clear hx hcc
    have hw0 : IntKind.i64.wrap ((l.length : Int) - 1) = ((l.length - 1 : Nat) : Int) := by rw [IntKind.wrap_i64]; omega
    have hlt : l.length - 1 < l.length := by omega
    have g0 : decide (0 < l.length) = true := decide_eq_true h0
    refine Reg.region_quiet (by kernel_rfl) (by kernel_rfl) ?_
    iterate 16 (first | go_big_quiet_skip | (go_big_quiet_want; (first | (go_big_quiet_op; go_big_quiet_on) | (apply Reg.quiet_run; (intro W hW; (have q0 := hW.cell l0; have q1 := hW.cell e0); go_simp; (first | done | rfl | exact ⟨rfl, rfl⟩ )); (simp only [Act.put, List.setIfInBounds_toArray, List.set_cons_zero, List.set_cons_succ]; go_big_quiet_on)) | (apply Reg.quiet_call; (intro W hW; go_simp; (first | done | rfl | exact ⟨rfl, rfl⟩)); (intro W hW; (first | fail)); (simp only [Act.put, List.setIfInBounds_toArray, List.set_cons_zero, List.set_cons_succ]; go_big_quiet_on)))))
    refine wpQuiet_nil ?_
    intro w9 hW
    replace k0 := k0.later hW
    replace hr := hr.later hW
    have cw9 := bl2 hW cw1
    clear hW cw1 l0
    clear e0 hw0 hlt g0
    by_cases h1 : o.id ≤ xi
    · have HF := Lib.hid (adE_1 (l := l) (o := o) ⟨h0, by rw [HX.out]; exact h1⟩)
      go_wp2_with fail
      go_ret2
      rw [HF.out]
      exact lout_no (adL_no HF.out (by decide)) cw9
    · have HNX := Lib.hid (show ¬ (0 < l.length ∧ o.id ≤ l[l.length - 1]!.id) by rw [HX.out]; exact fun h => h1 h.2)
      by_cases h5 : 64 ≤ l.length
      · have HF := Lib.hid (adE_2 HNX.out h5)
        go_wp2_with fail
        go_ret2
        rw [HF.out]
        exact lout_no (adL_no HF.out (by decide)) cw9
      · have HE := Lib.hid (adE_3 HNX.out h5)
        go_wp2_with (refine wpList_load_row rfl 23 _ rfl _ rfl _ _ _ _ k0 Try.underlying23 rfl (by kernel_rfl) ?_)
        refine (odchk_any o _ hs).mono ?_
        rintro e w2 ⟨rfl, hb⟩
        replace k0 := k0.later hb
        replace hr := hr.later hb
        have cw2 := bl2 hb cw9
        clear hb cw9
        by_cases hE : odE o ≠ 0
        · have HF := Lib.hid HE.out
          have HN := Lib.hid hE
          have g1 : (odE o != 0) = true := by simpa using hE
          clear hE HE
          generalize odE o = E at *
          go_wp2_with fail
          go_ret2
          rw [HF.out]
          exact lout_no (adL_no HF.out HN.out) cw2
        · have hE0 : odE o = 0 := Classical.byContradiction hE
          have HF0 := Lib.hid (HE.out.trans hE0)
          have HF := Lib.hid (show adL l o = l ++ [o] ∧ adE l o = 0 from ⟨adL_yes HF0.out, HF0.out⟩)
          have g1 : (odE o != 0) = false := by rw [hE0]; rfl
          clear hE HE hE0 HF0
          generalize odE o = E at g1 ⊢
          go_upto_region 8 with fail
          have hS0 : SQ w2 w.heap.size #[.int .i64 (o).id, .int .i64 (o).fr, .int .i64 (o).too, .int .i64 (o).am, .int .i64 (o).day, .int .i64 (o).ev, .int .i64 (o).an, .int .i64 (o).un, .int .i64 (o).tr, .string (o).tx] 23 w2.drew := ⟨k0.drew, (Below.refl _ _).drew⟩
          have HR := Lib.hid (fun W (hW : SQ w2 w.heap.size #[.int .i64 (o).id, .int .i64 (o).fr, .int .i64 (o).too, .int .i64 (o).am, .int .i64 (o).day, .int .i64 (o).ev, .int .i64 (o).an, .int .i64 (o).un, .int .i64 (o).tr, .string (o).tx] 23 W) => hr.later hW.2)
          have hg0 := k0.lt
          refine wp_region_held_drew (S := SQ w2 w.heap.size #[.int .i64 (o).id, .int .i64 (o).fr, .int .i64 (o).too, .int .i64 (o).am, .int .i64 (o).day, .int .i64 (o).ev, .int .i64 (o).an, .int .i64 (o).un, .int .i64 (o).tr, .string (o).tx] 23) (by kernel_rfl) hS0 (fun hS => ?_)
          clear hS0 k0 hr
          refine take_at 0 (by decide) (v := ?_) (by kernel_rfl) (by kernel_rfl) (by kernel_rfl) (fun _ _ _ h => h) hS (Or.inl ⟨by rfl, ?_⟩) ?_
          rotate_left
          · intro W hW
            skip
            clear hW
            simp only [List.getElem_cons_zero, List.getElem_cons_succ]
            go_simp
            first | done | with_reducible rfl
          simp only [List.getElem_cons_zero, List.getElem_cons_succ, Act.put, List.setIfInBounds_toArray, List.set_cons_zero, List.set_cons_succ]
          refine take_at 2 (by decide) (by kernel_rfl) (by kernel_rfl) (by kernel_rfl) (fun _ _ _ h => h) hS (yields_load_row (by rfl) 23 (.tmp 3) rfl w.heap.size rfl _ _ _ _ (fun W hW => hW.1) Try.underlying23 rfl (by kernel_rfl)) ?_
          simp only [List.getElem_cons_zero, List.getElem_cons_succ, Act.put, List.setIfInBounds_toArray, List.set_cons_zero, List.set_cons_succ]
          refine two_at 1 3 (by decide) (by decide) (by kernel_rfl) (by rfl) (by rfl) (fun K hK => ?_) (fun K hK => ?_)
          · refine call_wp (by simp only [List.getElem_cons_zero, List.getElem_cons_succ]; go_simp; first | done | rfl | exact ⟨rfl, rfl⟩) ((clg_any _ cap l _ (HR.out _ hS) (by omega)).mono ?_)
            rintro e w4 ⟨v, rfl, hgv, hb⟩
            have hT := SQ.mono _ _ hS hb
            have hBs := Below.size hb
            have hB0 : w2.heap.size ≤ w2.drew.heap.size := Nat.le_refl _
            refine ⟨_, rfl, hK.out _ _ hT (fun hT' => ?_)⟩
            clear hT' hS hb
            simp only [List.getElem_cons_zero, List.getElem_cons_succ, Act.put, List.setIfInBounds_toArray, List.set_cons_zero, List.set_cons_succ]
            refine one_at 3 (by decide) (by kernel_rfl) (by rfl) (fun K hK => ?_)
            refine value_wp (by simp only [List.getElem_cons_zero, List.getElem_cons_succ]; go_simp; first | done | rfl | exact ⟨rfl, rfl⟩) ?_
            have hU := SQ.mono _ _ hT ((Below.refl _ _).alloc (Nat.le_refl _) (.cells #[.int .i64 (o).id, .int .i64 (o).fr, .int .i64 (o).too, .int .i64 (o).am, .int .i64 (o).day, .int .i64 (o).ev, .int .i64 (o).an, .int .i64 (o).un, .int .i64 (o).tr, .string (o).tx] 23))
            have hN : Bk.Blk (w4.alloc (.cells #[.int .i64 (o).id, .int .i64 (o).fr, .int .i64 (o).too, .int .i64 (o).am, .int .i64 (o).day, .int .i64 (o).ev, .int .i64 (o).an, .int .i64 (o).un, .int .i64 (o).tr, .string (o).tx] 23)) w4.heap.size #[.int .i64 (o).id, .int .i64 (o).fr, .int .i64 (o).too, .int .i64 (o).am, .int .i64 (o).day, .int .i64 (o).ev, .int .i64 (o).an, .int .i64 (o).un, .int .i64 (o).tr, .string (o).tx] 23 := Bk.Blk.nw10
            replace hgv := hgv.later ((Below.refl _ _).alloc (Nat.le_refl _) (.cells #[.int .i64 (o).id, .int .i64 (o).fr, .int .i64 (o).too, .int .i64 (o).am, .int .i64 (o).day, .int .i64 (o).ev, .int .i64 (o).an, .int .i64 (o).un, .int .i64 (o).tr, .string (o).tx] 23))
            refine hK.out _ _ hU (fun hU' => ?_)
            clear hU' hT
            simp only [List.getElem_cons_zero, List.getElem_cons_succ, Act.put, List.setIfInBounds_toArray, List.set_cons_zero, List.set_cons_succ]
            refine one_at 4 (by decide) (by kernel_rfl) (by rfl) (fun K hK => ?_)
            refine wp_app_ord o _ _ rfl rfl hgv _ rfl hN (by first | (simp; done) | omega) (by first | exact hBs | (have := hN.lt; omega)) ?_
            intro v' w' hgv' hgr
            have hS' := sq_grown hU hgr (fun j hj => (hgv.lt j hj).2) hB0 hg0
            refine hK.out _ _ hS' (fun hS => ?_)
            clear hS' hgr hU hgv hN hK
            simp only [List.getElem_cons_zero, List.getElem_cons_succ, Act.put, List.setIfInBounds_toArray, List.set_cons_zero, List.set_cons_succ]
            refine take_at 5 (by decide) (v := ?_) (by kernel_rfl) (by kernel_rfl) (by kernel_rfl) (fun _ _ _ h => h) hS (Or.inl ⟨by rfl, ?_⟩) ?_
            rotate_left
            · intro W hW
              skip
              clear hW
              simp only [List.getElem_cons_zero, List.getElem_cons_succ]
              go_simp
              first | done | with_reducible rfl
            simp only [List.getElem_cons_zero, List.getElem_cons_succ, Act.put, List.setIfInBounds_toArray, List.set_cons_zero, List.set_cons_succ]
            refine take_at 6 (by decide) (v := ?_) (by kernel_rfl) (by kernel_rfl) (by kernel_rfl) (fun _ _ _ h => h) hS (Or.inl ⟨by rfl, ?_⟩) ?_
            rotate_left
            · intro W hW
              skip
              clear hW
              simp only [List.getElem_cons_zero, List.getElem_cons_succ]
              go_simp
              first | done | with_reducible rfl
            simp only [List.getElem_cons_zero, List.getElem_cons_succ, Act.put, List.setIfInBounds_toArray, List.set_cons_zero, List.set_cons_succ]
            refine wpAnyH_done (by kernel_rfl) ?_ _
            have cwf := bl2 hS.2 cw2
            clear hS
            obtain ⟨a', c', rfl, hr', _⟩ := hgv'.row
            go_wp2_with fail
            go_ret2
            rw [HF.out.1, HF.out.2]
            exact ⟨a', c', rfl, hr', cwf⟩
          · refine value_wp (by simp only [List.getElem_cons_zero, List.getElem_cons_succ]; go_simp; first | done | rfl | exact ⟨rfl, rfl⟩) ?_
            have hT := SQ.mono _ _ hS ((Below.refl _ _).alloc (Nat.le_refl _) (.cells #[.int .i64 (o).id, .int .i64 (o).fr, .int .i64 (o).too, .int .i64 (o).am, .int .i64 (o).day, .int .i64 (o).ev, .int .i64 (o).an, .int .i64 (o).un, .int .i64 (o).tr, .string (o).tx] 23))
            have hN : Bk.Blk (w2.drew.alloc (.cells #[.int .i64 (o).id, .int .i64 (o).fr, .int .i64 (o).too, .int .i64 (o).am, .int .i64 (o).day, .int .i64 (o).ev, .int .i64 (o).an, .int .i64 (o).un, .int .i64 (o).tr, .string (o).tx] 23)) w2.drew.heap.size #[.int .i64 (o).id, .int .i64 (o).fr, .int .i64 (o).too, .int .i64 (o).am, .int .i64 (o).day, .int .i64 (o).ev, .int .i64 (o).an, .int .i64 (o).un, .int .i64 (o).tr, .string (o).tx] 23 := Bk.Blk.nw10
            refine hK.out _ _ hT (fun hT' => ?_)
            clear hT' hS
            simp only [List.getElem_cons_zero, List.getElem_cons_succ, Act.put, List.setIfInBounds_toArray, List.set_cons_zero, List.set_cons_succ]
            refine one_at 1 (by decide) (by kernel_rfl) (by rfl) (fun K hK => ?_)
            refine call_wp (by simp only [List.getElem_cons_zero, List.getElem_cons_succ]; go_simp; first | done | rfl | exact ⟨rfl, rfl⟩) ((clg_any _ cap l _ (HR.out _ hT) (by omega)).mono ?_)
            rintro e w4 ⟨v, rfl, hgv, hb⟩
            have hU := SQ.mono _ _ hT hb
            have hBs := Below.size hb
            have hB0 : w2.heap.size ≤ (w2.drew.alloc (.cells #[.int .i64 (o).id, .int .i64 (o).fr, .int .i64 (o).too, .int .i64 (o).am, .int .i64 (o).day, .int .i64 (o).ev, .int .i64 (o).an, .int .i64 (o).un, .int .i64 (o).tr, .string (o).tx] 23)).heap.size := Below.size hT.2
            replace hN := hN.later hb
            refine ⟨_, rfl, hK.out _ _ hU (fun hU' => ?_)⟩
            clear hU' hT hb
            simp only [List.getElem_cons_zero, List.getElem_cons_succ, Act.put, List.setIfInBounds_toArray, List.set_cons_zero, List.set_cons_succ]
            refine one_at 4 (by decide) (by kernel_rfl) (by rfl) (fun K hK => ?_)
            refine wp_app_ord o _ _ rfl rfl hgv _ rfl hN (by first | (simp; done) | omega) (by first | exact hBs | (have := hN.lt; omega)) ?_
            intro v' w' hgv' hgr
            have hS' := sq_grown hU hgr (fun j hj => (hgv.lt j hj).2) hB0 hg0
            refine hK.out _ _ hS' (fun hS => ?_)
            clear hS' hgr hU hgv hN hK
            simp only [List.getElem_cons_zero, List.getElem_cons_succ, Act.put, List.setIfInBounds_toArray, List.set_cons_zero, List.set_cons_succ]
            refine take_at 5 (by decide) (v := ?_) (by kernel_rfl) (by kernel_rfl) (by kernel_rfl) (fun _ _ _ h => h) hS (Or.inl ⟨by rfl, ?_⟩) ?_
            rotate_left
            · intro W hW
              skip
              clear hW
              simp only [List.getElem_cons_zero, List.getElem_cons_succ]
              go_simp
              first | done | with_reducible rfl
            simp only [List.getElem_cons_zero, List.getElem_cons_succ, Act.put, List.setIfInBounds_toArray, List.set_cons_zero, List.set_cons_succ]
            refine take_at 6 (by decide) (v := ?_) (by kernel_rfl) (by kernel_rfl) (by kernel_rfl) (fun _ _ _ h => h) hS (Or.inl ⟨by rfl, ?_⟩) ?_
            rotate_left
            · intro W hW
              skip
              clear hW
              simp only [List.getElem_cons_zero, List.getElem_cons_succ]
              go_simp
              first | done | with_reducible rfl
            simp only [List.getElem_cons_zero, List.getElem_cons_succ, Act.put, List.setIfInBounds_toArray, List.set_cons_zero, List.set_cons_succ]
            refine wpAnyH_done (by kernel_rfl) ?_ _
            have cwf := bl2 hS.2 cw2
            clear hS
            obtain ⟨a', c', rfl, hr', _⟩ := hgv'.row
            go_wp2_with fail
            go_ret2
            rw [HF.out.1, HF.out.2]
            exact ⟨a', c', rfl, hr', cwf⟩
  · have hl0 : l = [] := List.length_eq_zero_iff.1 (by omega)
    subst hl0
    have l0 := k0.c0
    refine Reg.region_quiet (by kernel_rfl) (by kernel_rfl) ?_
    iterate 16 (first | go_big_quiet_skip | (go_big_quiet_want; (first | (go_big_quiet_op; go_big_quiet_on) | (apply Reg.quiet_run; (intro W hW; (have q0 := hW.cell l0; skip); go_simp; (first | done | rfl | exact ⟨rfl, rfl⟩ )); (simp only [Act.put, List.setIfInBounds_toArray, List.set_cons_zero, List.set_cons_succ]; go_big_quiet_on)) | (apply Reg.quiet_call; (intro W hW; go_simp; (first | done | rfl | exact ⟨rfl, rfl⟩)); (intro W hW; (first | fail)); (simp only [Act.put, List.setIfInBounds_toArray, List.set_cons_zero, List.set_cons_succ]; go_big_quiet_on)))))
    refine wpQuiet_nil ?_
    intro w9 hW
    replace k0 := k0.later hW
    replace hr := hr.later hW
    have cw9 := bl2 hW cw1
    clear hW cw1 l0
    have HNX := Lib.hid (show ¬ (0 < ([] : List Od).length ∧ o.id ≤ ([] : List Od)[([] : List Od).length - 1]!.id) from fun h => absurd h.1 (by simp))
    go_upto_region 3 with fail
    have h5 : ¬ 64 ≤ ([] : List Od).length := by simp
    have HE := Lib.hid (adE_3 HNX.out h5)
    go_wp2_with (refine wpList_load_row rfl 23 _ rfl _ rfl _ _ _ _ k0 Try.underlying23 rfl (by kernel_rfl) ?_)
    refine (odchk_any o _ hs).mono ?_
    rintro e w2 ⟨rfl, hb⟩
    replace k0 := k0.later hb
    replace hr := hr.later hb
    have cw2 := bl2 hb cw9
    clear hb cw9
    by_cases hE : odE o ≠ 0
    · have HF := Lib.hid HE.out
      have HN := Lib.hid hE
      have g1 : (odE o != 0) = true := by simpa using hE
      clear hE HE
      generalize odE o = E at *
      go_wp2_with fail
      go_ret2
      rw [HF.out]
      exact lout_no (adL_no HF.out HN.out) cw2
    · have hE0 : odE o = 0 := Classical.byContradiction hE
      have HF0 := Lib.hid (HE.out.trans hE0)
      have HF := Lib.hid (show adL ([] : List Od) o = ([] : List Od) ++ [o] ∧ adE ([] : List Od) o = 0 from ⟨adL_yes HF0.out, HF0.out⟩)
      have g1 : (odE o != 0) = false := by rw [hE0]; rfl
      clear hE HE hE0 HF0
      generalize odE o = E at g1 ⊢
      go_upto_region 8 with fail
      have hS0 : SQ w2 w.heap.size #[.int .i64 (o).id, .int .i64 (o).fr, .int .i64 (o).too, .int .i64 (o).am, .int .i64 (o).day, .int .i64 (o).ev, .int .i64 (o).an, .int .i64 (o).un, .int .i64 (o).tr, .string (o).tx] 23 w2.drew := ⟨k0.drew, (Below.refl _ _).drew⟩
      have HR := Lib.hid (fun W (hW : SQ w2 w.heap.size #[.int .i64 (o).id, .int .i64 (o).fr, .int .i64 (o).too, .int .i64 (o).am, .int .i64 (o).day, .int .i64 (o).ev, .int .i64 (o).an, .int .i64 (o).un, .int .i64 (o).tr, .string (o).tx] 23 W) => hr.later hW.2)
      have hg0 := k0.lt
      refine wp_region_held_drew (S := SQ w2 w.heap.size #[.int .i64 (o).id, .int .i64 (o).fr, .int .i64 (o).too, .int .i64 (o).am, .int .i64 (o).day, .int .i64 (o).ev, .int .i64 (o).an, .int .i64 (o).un, .int .i64 (o).tr, .string (o).tx] 23) (by kernel_rfl) hS0 (fun hS => ?_)
      clear hS0 k0 hr
      refine take_at 0 (by decide) (v := ?_) (by kernel_rfl) (by kernel_rfl) (by kernel_rfl) (fun _ _ _ h => h) hS (Or.inl ⟨by rfl, ?_⟩) ?_
      rotate_left
      · intro W hW
        skip
        clear hW
        simp only [List.getElem_cons_zero, List.getElem_cons_succ]
        go_simp
        first | done | with_reducible rfl
      simp only [List.getElem_cons_zero, List.getElem_cons_succ, Act.put, List.setIfInBounds_toArray, List.set_cons_zero, List.set_cons_succ]
      refine take_at 2 (by decide) (by kernel_rfl) (by kernel_rfl) (by kernel_rfl) (fun _ _ _ h => h) hS (yields_load_row (by rfl) 23 (.tmp 3) rfl w.heap.size rfl _ _ _ _ (fun W hW => hW.1) Try.underlying23 rfl (by kernel_rfl)) ?_
      simp only [List.getElem_cons_zero, List.getElem_cons_succ, Act.put, List.setIfInBounds_toArray, List.set_cons_zero, List.set_cons_succ]
      refine two_at 1 3 (by decide) (by decide) (by kernel_rfl) (by rfl) (by rfl) (fun K hK => ?_) (fun K hK => ?_)
      · refine call_wp (by simp only [List.getElem_cons_zero, List.getElem_cons_succ]; go_simp; first | done | rfl | exact ⟨rfl, rfl⟩) ((clg_any _ cap ([] : List Od) _ (HR.out _ hS) (by omega)).mono ?_)
        rintro e w4 ⟨v, rfl, hgv, hb⟩
        have hT := SQ.mono _ _ hS hb
        have hBs := Below.size hb
        have hB0 : w2.heap.size ≤ w2.drew.heap.size := Nat.le_refl _
        refine ⟨_, rfl, hK.out _ _ hT (fun hT' => ?_)⟩
        clear hT' hS hb
        simp only [List.getElem_cons_zero, List.getElem_cons_succ, Act.put, List.setIfInBounds_toArray, List.set_cons_zero, List.set_cons_succ]
        refine one_at 3 (by decide) (by kernel_rfl) (by rfl) (fun K hK => ?_)
        refine value_wp (by simp only [List.getElem_cons_zero, List.getElem_cons_succ]; go_simp; first | done | rfl | exact ⟨rfl, rfl⟩) ?_
        have hU := SQ.mono _ _ hT ((Below.refl _ _).alloc (Nat.le_refl _) (.cells #[.int .i64 (o).id, .int .i64 (o).fr, .int .i64 (o).too, .int .i64 (o).am, .int .i64 (o).day, .int .i64 (o).ev, .int .i64 (o).an, .int .i64 (o).un, .int .i64 (o).tr, .string (o).tx] 23))
        have hN : Bk.Blk (w4.alloc (.cells #[.int .i64 (o).id, .int .i64 (o).fr, .int .i64 (o).too, .int .i64 (o).am, .int .i64 (o).day, .int .i64 (o).ev, .int .i64 (o).an, .int .i64 (o).un, .int .i64 (o).tr, .string (o).tx] 23)) w4.heap.size #[.int .i64 (o).id, .int .i64 (o).fr, .int .i64 (o).too, .int .i64 (o).am, .int .i64 (o).day, .int .i64 (o).ev, .int .i64 (o).an, .int .i64 (o).un, .int .i64 (o).tr, .string (o).tx] 23 := Bk.Blk.nw10
        replace hgv := hgv.later ((Below.refl _ _).alloc (Nat.le_refl _) (.cells #[.int .i64 (o).id, .int .i64 (o).fr, .int .i64 (o).too, .int .i64 (o).am, .int .i64 (o).day, .int .i64 (o).ev, .int .i64 (o).an, .int .i64 (o).un, .int .i64 (o).tr, .string (o).tx] 23))
        refine hK.out _ _ hU (fun hU' => ?_)
        clear hU' hT
        simp only [List.getElem_cons_zero, List.getElem_cons_succ, Act.put, List.setIfInBounds_toArray, List.set_cons_zero, List.set_cons_succ]
        refine one_at 4 (by decide) (by kernel_rfl) (by rfl) (fun K hK => ?_)
        refine wp_app_ord o _ _ rfl rfl hgv _ rfl hN (by first | (simp; done) | omega) (by first | exact hBs | (have := hN.lt; omega)) ?_
        intro v' w' hgv' hgr
        have hS' := sq_grown hU hgr (fun j hj => (hgv.lt j hj).2) hB0 hg0
        refine hK.out _ _ hS' (fun hS => ?_)
        clear hS' hgr hU hgv hN hK
        simp only [List.getElem_cons_zero, List.getElem_cons_succ, Act.put, List.setIfInBounds_toArray, List.set_cons_zero, List.set_cons_succ]
        refine take_at 5 (by decide) (v := ?_) (by kernel_rfl) (by kernel_rfl) (by kernel_rfl) (fun _ _ _ h => h) hS (Or.inl ⟨by rfl, ?_⟩) ?_
        rotate_left
        · intro W hW
          skip
          clear hW
          simp only [List.getElem_cons_zero, List.getElem_cons_succ]
          go_simp
          first | done | with_reducible rfl
        simp only [List.getElem_cons_zero, List.getElem_cons_succ, Act.put, List.setIfInBounds_toArray, List.set_cons_zero, List.set_cons_succ]
        refine take_at 6 (by decide) (v := ?_) (by kernel_rfl) (by kernel_rfl) (by kernel_rfl) (fun _ _ _ h => h) hS (Or.inl ⟨by rfl, ?_⟩) ?_
        rotate_left
        · intro W hW
          skip
          clear hW
          simp only [List.getElem_cons_zero, List.getElem_cons_succ]
          go_simp
          first | done | with_reducible rfl
        simp only [List.getElem_cons_zero, List.getElem_cons_succ, Act.put, List.setIfInBounds_toArray, List.set_cons_zero, List.set_cons_succ]
        refine wpAnyH_done (by kernel_rfl) ?_ _
        have cwf := bl2 hS.2 cw2
        clear hS
        obtain ⟨a', c', rfl, hr', _⟩ := hgv'.row
        go_wp2_with fail
        go_ret2
        rw [HF.out.1, HF.out.2]
        exact ⟨a', c', rfl, hr', cwf⟩
      · refine value_wp (by simp only [List.getElem_cons_zero, List.getElem_cons_succ]; go_simp; first | done | rfl | exact ⟨rfl, rfl⟩) ?_
        have hT := SQ.mono _ _ hS ((Below.refl _ _).alloc (Nat.le_refl _) (.cells #[.int .i64 (o).id, .int .i64 (o).fr, .int .i64 (o).too, .int .i64 (o).am, .int .i64 (o).day, .int .i64 (o).ev, .int .i64 (o).an, .int .i64 (o).un, .int .i64 (o).tr, .string (o).tx] 23))
        have hN : Bk.Blk (w2.drew.alloc (.cells #[.int .i64 (o).id, .int .i64 (o).fr, .int .i64 (o).too, .int .i64 (o).am, .int .i64 (o).day, .int .i64 (o).ev, .int .i64 (o).an, .int .i64 (o).un, .int .i64 (o).tr, .string (o).tx] 23)) w2.drew.heap.size #[.int .i64 (o).id, .int .i64 (o).fr, .int .i64 (o).too, .int .i64 (o).am, .int .i64 (o).day, .int .i64 (o).ev, .int .i64 (o).an, .int .i64 (o).un, .int .i64 (o).tr, .string (o).tx] 23 := Bk.Blk.nw10
        refine hK.out _ _ hT (fun hT' => ?_)
        clear hT' hS
        simp only [List.getElem_cons_zero, List.getElem_cons_succ, Act.put, List.setIfInBounds_toArray, List.set_cons_zero, List.set_cons_succ]
        refine one_at 1 (by decide) (by kernel_rfl) (by rfl) (fun K hK => ?_)
        refine call_wp (by simp only [List.getElem_cons_zero, List.getElem_cons_succ]; go_simp; first | done | rfl | exact ⟨rfl, rfl⟩) ((clg_any _ cap ([] : List Od) _ (HR.out _ hT) (by omega)).mono ?_)
        rintro e w4 ⟨v, rfl, hgv, hb⟩
        have hU := SQ.mono _ _ hT hb
        have hBs := Below.size hb
        have hB0 : w2.heap.size ≤ (w2.drew.alloc (.cells #[.int .i64 (o).id, .int .i64 (o).fr, .int .i64 (o).too, .int .i64 (o).am, .int .i64 (o).day, .int .i64 (o).ev, .int .i64 (o).an, .int .i64 (o).un, .int .i64 (o).tr, .string (o).tx] 23)).heap.size := Below.size hT.2
        replace hN := hN.later hb
        refine ⟨_, rfl, hK.out _ _ hU (fun hU' => ?_)⟩
        clear hU' hT hb
        simp only [List.getElem_cons_zero, List.getElem_cons_succ, Act.put, List.setIfInBounds_toArray, List.set_cons_zero, List.set_cons_succ]
        refine one_at 4 (by decide) (by kernel_rfl) (by rfl) (fun K hK => ?_)
        refine wp_app_ord o _ _ rfl rfl hgv _ rfl hN (by first | (simp; done) | omega) (by first | exact hBs | (have := hN.lt; omega)) ?_
        intro v' w' hgv' hgr
        have hS' := sq_grown hU hgr (fun j hj => (hgv.lt j hj).2) hB0 hg0
        refine hK.out _ _ hS' (fun hS => ?_)
        clear hS' hgr hU hgv hN hK
        simp only [List.getElem_cons_zero, List.getElem_cons_succ, Act.put, List.setIfInBounds_toArray, List.set_cons_zero, List.set_cons_succ]
        refine take_at 5 (by decide) (v := ?_) (by kernel_rfl) (by kernel_rfl) (by kernel_rfl) (fun _ _ _ h => h) hS (Or.inl ⟨by rfl, ?_⟩) ?_
        rotate_left
        · intro W hW
          skip
          clear hW
          simp only [List.getElem_cons_zero, List.getElem_cons_succ]
          go_simp
          first | done | with_reducible rfl
        simp only [List.getElem_cons_zero, List.getElem_cons_succ, Act.put, List.setIfInBounds_toArray, List.set_cons_zero, List.set_cons_succ]
        refine take_at 6 (by decide) (v := ?_) (by kernel_rfl) (by kernel_rfl) (by kernel_rfl) (fun _ _ _ h => h) hS (Or.inl ⟨by rfl, ?_⟩) ?_
        rotate_left
        · intro W hW
          skip
          clear hW
          simp only [List.getElem_cons_zero, List.getElem_cons_succ]
          go_simp
          first | done | with_reducible rfl
        simp only [List.getElem_cons_zero, List.getElem_cons_succ, Act.put, List.setIfInBounds_toArray, List.set_cons_zero, List.set_cons_succ]
        refine wpAnyH_done (by kernel_rfl) ?_ _
        have cwf := bl2 hS.2 cw2
        clear hS
        obtain ⟨a', c', rfl, hr', _⟩ := hgv'.row
        go_wp2_with fail
        go_ret2
        rw [HF.out.1, HF.out.2]
        exact ⟨a', c', rfl, hr', cwf⟩
end Go.Proofs.Ytdlmoijeflchgaa.So
