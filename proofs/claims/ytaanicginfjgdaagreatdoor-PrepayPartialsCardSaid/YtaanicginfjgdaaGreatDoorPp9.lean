/-
 Prepay: a part of a loan is paid, and its schedule is built again.
-/
import Derived.Test.YtaanicginfjgdaaGreatDoorPpc
import Derived.Test.YtaanicginfjgdaaGreatDoorSma
import Derived.Deep.AppendLies
namespace Go.Proofs.YtaanicginfjgdaaGreatDoor.Pp
open Go Go.RowKit
open Go.Proofs.YtaanicginfjgdaaGreatDoor
open Go.Proofs.YtaanicginfjgdaaGreatDoor.Ln (Tm Ch Du Lo Pa sum prs its P I due chk Ok ok_iff wrap_in wrap_add powed zLo LoIn DuesIn RowIn OwnR denc denc_len cenc cenc_len penc penc_len tenc flat flat_len Dok dues_of_row bl2 SB SB.mono SQ SQ.mono take_at one_at two_at call_at call_wp call_one call_pv value_wp yields_load_row Blk_setRow_same Blk_setRow_ne Below_setRow dues_setRow row_row one25 load_guarded results2_cell dues_lt rowc_lt rangeAt_later tk ts z0 z1 z3 z4 z5)
open Go.Proofs.YtaanicginfjgdaaGreatDoor.Ln (row_put flat_mem denc_one key2_of key8_of)
open Go.Proofs.YtaanicginfjgdaaGreatDoor.Sr (GV DV app_due grown_blk grown_below)
open Go.Proofs.YtaanicginfjgdaaGreatDoor.An (pOk POut pout_no pout_over pout_ok Least enough)
open Go.Proofs.YtaanicginfjgdaaGreatDoor.Rd (gd pcV pcE Stp)
open Go.Proofs.YtaanicginfjgdaaGreatDoor.Kl (Cl CalIn skE)
set_option linter.unusedSimpArgs false
set_option linter.unusedVariables false
set_option maxRecDepth 100000

theorem pout_self (p ppm ev m cnt bal : Int) : POut p ppm ev m cnt bal (.returned (.tuple #[.int .i64 (anV p ppm ev m cnt bal), .int .i64 (anE p ppm ev m cnt bal)])) := by
 by_cases h1 : pOk p ppm ev m cnt bal
 ·cases h2 : enough (ppm * ev) m cnt.toNat p bal 1000000000000
  ·have h := pout_over h1 h2
   have he := pout_is h
   rw [he] at h
   exact h
  ·obtain ⟨x, hx, h3, h4⟩ := Kl.least_below 1000000000000 h2
   have h := pout_ok h1 (v := (x : Int)) ⟨⟨by omega, by omega⟩, h3, fun y y0 y1 => by
    obtain ⟨z, rfl⟩ := Int.eq_ofNat_of_zero_le y0
    exact h4 z (by omega)⟩
   have he := pout_is h
   rw [he] at h
   exact h
 ·have h := pout_no h1
  have he := pout_is h
  rw [he] at h
  exact h
theorem lv_bd {l : Lo} {day keep rest : Int} {n : Nat} (h : lvE l keep rest n = 0) (hx : (0 ≤ (nx l day).pr ∧ (nx l day).pr ≤ 1000000000000) ∧ (0 ≤ (nx l day).it ∧ (nx l day).it ≤ 1000000000000)) : 0 ≤ lvV l day keep rest n ∧ lvV l day keep rest n ≤ 3000000000000 := by
 unfold lvV
 unfold lvE at h
 split
 ·omega
 ·rename_i hk
  rw [if_neg hk] at h
  split
  ·rename_i hm
   rw [if_pos hm] at h
   have := (an_least (pout_self _ _ _ _ _ _) h).2.1
   omega
  ·omega
section
variable {l : Lo} {a day keep : Int} {c : Cl}
theorem paE_1 (h : ¬ (chk l = 0 ∧ 0 ≤ day ∧ day ≤ 73048)) : paE l a day keep c = 1 := if_pos h
theorem paE_2 (h : chk l = 0 ∧ 0 ≤ day ∧ day ≤ 73048) (h2 : alE l a day keep c ≠ 0) : paE l a day keep c = alE l a day keep c := (if_neg (fun e => e h)).trans (if_pos h2)
theorem paE_3 (h : chk l = 0 ∧ 0 ≤ day ∧ day ≤ 73048) (h2 : alE l a day keep c = 0) (h3 : ¬ (gd (rst l a) ∧ gd (one2 l a day).pr ∧ gd (one2 l a day).it)) : paE l a day keep c = 6 := ((if_neg (fun e => e h)).trans (if_neg (fun e => e h2))).trans (if_pos h3)
theorem paE_4 (h : chk l = 0 ∧ 0 ≤ day ∧ day ≤ 73048) (h2 : alE l a day keep c = 0) (h3 : gd (rst l a) ∧ gd (one2 l a day).pr ∧ gd (one2 l a day).it) (h4 : lvE l keep (rst l a) (snd l day).length ≠ 0) : paE l a day keep c = lvE l keep (rst l a) (snd l day).length := (((if_neg (fun e => e h)).trans (if_neg (fun e => e h2))).trans (if_neg (fun e => e h3))).trans (if_pos h4)
theorem paE_5 (h : chk l = 0 ∧ 0 ≤ day ∧ day ≤ 73048) (h2 : alE l a day keep c = 0) (h3 : gd (rst l a) ∧ gd (one2 l a day).pr ∧ gd (one2 l a day).it) (h4 : lvE l keep (rst l a) (snd l day).length = 0) (h5 : 240 < (paD l a day keep).length) : paE l a day keep c = 5 := ((((if_neg (fun e => e h)).trans (if_neg (fun e => e h2))).trans (if_neg (fun e => e h3))).trans (if_neg (fun e => e h4))).trans (if_pos h5)
theorem paE_0 (h : chk l = 0 ∧ 0 ≤ day ∧ day ≤ 73048) (h2 : alE l a day keep c = 0) (h3 : gd (rst l a) ∧ gd (one2 l a day).pr ∧ gd (one2 l a day).it) (h4 : lvE l keep (rst l a) (snd l day).length = 0) (h5 : ¬ 240 < (paD l a day keep).length) : paE l a day keep c = 0 := ((((if_neg (fun e => e h)).trans (if_neg (fun e => e h2))).trans (if_neg (fun e => e h3))).trans (if_neg (fun e => e h4))).trans (if_neg h5)
end
def PaO (l : Lo) (a day keep : Int) (c : Cl) (w : World) (e : Ending) (w' : World) : Prop := ∃ da dk ca ck pa pc, e = .returned (.tuple #[(.agg #[.int .i64 ((paL l a day keep c)).id, .int .i64 ((paL l a day keep c)).ac, .int .i64 ((paL l a day keep c)).st, .int .i64 ((paL l a day keep c)).pp, .int .i64 ((paL l a day keep c)).pi, .int .i64 ((paL l a day keep c)).fee, .int .i64 ((paL l a day keep c)).pen, .int .i64 ((paL l a day keep c)).chg, .int .i64 ((paL l a day keep c)).prov, .int .i64 ((paL l a day keep c)).loss, .int .i64 ((paL l a day keep c)).rcv, .int .i64 (((paL l a day keep c)).tm).me, .int .i64 (((paL l a day keep c)).tm).pr, .int .i64 (((paL l a day keep c)).tm).ppm, .int .i64 (((paL l a day keep c)).tm).stt, .int .i64 (((paL l a day keep c)).tm).ev, .int .i64 (((paL l a day keep c)).tm).ct, .int .i64 (((paL l a day keep c)).tm).ba, .int .i64 (((paL l a day keep c)).tm).mo, .int .i64 (((paL l a day keep c)).tm).pen, .int .i64 (((paL l a day keep c)).tm).fe, .string (((paL l a day keep c)).tm).cal, .string (((paL l a day keep c)).tm).cur, .slice da ((paL l a day keep c)).ds.length dk, .slice ca ((paL l a day keep c)).cs.length ck]), .slice pa (paP l a day keep c).length pc, .int .i64 (paE l a day keep c)]) ∧ DuesIn w' da (paL l a day keep c).ds ∧ RowIn cenc w' ca (paL l a day keep c).cs ∧ RowIn penc w' pa (paP l a day keep c) ∧ Below w.heap.size w w'
theorem pao_no {l : Lo} {a day keep E : Int} {c : Cl} {w w' : World} (h : paE l a day keep c = E) (h0 : E ≠ 0) (hb : Below w.heap.size w w') : PaO l a day keep c w (.returned (.tuple #[.agg #[.int .i64 0, .int .i64 0, .int .i64 0, .int .i64 0, .int .i64 0, .int .i64 0, .int .i64 0, .int .i64 0, .int .i64 0, .int .i64 0, .int .i64 0, .int .i64 0, .int .i64 0, .int .i64 0, .int .i64 0, .int .i64 0, .int .i64 0, .int .i64 0, .int .i64 0, .int .i64 0, .int .i64 0, .string { data := #[] }, .string { data := #[] }, .slice none 0 0, .slice none 0 0], .slice none 0 0, .int .i64 E])) w' := by
 have hl : paL l a day keep c = zLo := if_neg (by rw [h]; exact h0)
 have hp : paP l a day keep c = [] := if_neg (by rw [h]; exact h0)
 refine ⟨none, 0, none, 0, none, 0, ?_, ?_, ?_, ?_, hb⟩
 ·rw [hl, h, hp]; rfl
 ·rw [hl]; exact ⟨by decide, fun h => by simp [zLo] at h⟩
 ·rw [hl]; exact fun h => by simp [zLo] at h
 ·rw [hp]; exact fun h => by simp at h
theorem pao_ok {l : Lo} {a day keep pp : Int} {c : Cl} {w w' : World} {da ca pa : Option Addr} {dk ck pc : Nat} {ds : List Du} {ps : List Pa} (h : paE l a day keep c = 0) (hds : paD l a day keep = ds) (hpp : l.pp + paid l a = pp) (hps : paQ l a = ps) (hd : DuesIn w' da ds) (hc : RowIn cenc w' ca l.cs) (hp : RowIn penc w' pa ps) (hb : Below w.heap.size w w') : PaO l a day keep c w (.returned (.tuple #[.agg #[.int .i64 l.id, .int .i64 l.ac, .int .i64 l.st, .int .i64 pp, .int .i64 l.pi, .int .i64 l.fee, .int .i64 l.pen, .int .i64 l.chg, .int .i64 l.prov, .int .i64 l.loss, .int .i64 l.rcv, .int .i64 (l.tm).me, .int .i64 (l.tm).pr, .int .i64 (l.tm).ppm, .int .i64 (l.tm).stt, .int .i64 (l.tm).ev, .int .i64 (l.tm).ct, .int .i64 (l.tm).ba, .int .i64 (l.tm).mo, .int .i64 (l.tm).pen, .int .i64 (l.tm).fe, .string (l.tm).cal, .string (l.tm).cur, .slice da ds.length dk, .slice ca l.cs.length ck], .slice pa ps.length pc, .int .i64 0])) w' := by
 subst hds hps hpp
 have hl : paL l a day keep c = paO l a day keep := if_pos h
 have hq : paP l a day keep c = paQ l a := if_pos h
 refine ⟨da, dk, ca, ck, pa, pc, ?_, ?_, ?_, ?_, hb⟩
 ·rw [hl, h, hq]; rfl
 ·rw [hl]; exact hd
 ·rw [hl]; exact hc
 ·rw [hq]; exact hp
theorem gv_base {W : World} {B B' : Nat} {v : Value} {xs : List Du} (h : DV W B v xs) (hB : B' ≤ B) : DV W B' v xs := by
 obtain ⟨⟨h1, h2⟩, h3⟩ := h
 refine ⟨⟨h1, ?_⟩, h3⟩
 rcases h2 with h2 | ⟨g, c, cs, e1, h4, h5⟩
 ·exact .inl h2
 ·exact .inr ⟨g, c, cs, e1, Nat.le_trans hB h4, h5⟩
theorem load_wp {P : Program} {a : Act} {o : Oper} {w : World} {K : Act → World → Prop} {Q : Exit → Act → World → Prop} (ty : TypeId) (x : Operand) (ho : o.op = .load ty x)
  (g : Nat) (hx : a.eval x = .pointer (some ⟨g, 0, none⟩)) (t : TypeId) (cs : Array Value) (fr : Nat × Nat) (d : TypeDesc) (hg : w.heap[g]? = some (.cells cs t fr))
  (hu : P.underlying ty = some d) (hd : (match d with | .struct _ | .array _ _ => true | _ => false) = true) (hi : (P.info? ty).map (·.size) = some cs.size) (h : K (a.put o.dst (.agg cs)) w) : Oper.wp P o a w K Q :=
 value_wp (by unfold execOp; simp only [ho, hx, Instr.loadAt, Instr.sureAddr, Sem.run_bind, Sem.run_pure, Result.andThen_ok, run_loadVar_row w g t ty cs fr d hg hu hd hi]) h
theorem skip_wp {P : Program} {a : Act} {o : Oper} {w w' : World} {K : Act → World → Prop} {Q : Exit → Act → World → Prop} (hrun : (execOp a.eval o).run P w = .ok .skip w') (h : K (a.put o.dst undef) w') : Oper.wp P o a w K Q := by
 unfold Oper.wp
 rw [hrun]
 simp only [Oper.upon]
 exact h
theorem due_wp {ops : Array Oper} {o : Oper} {a : Act} {K : Act → World → Prop} {Q : Exit → Act → World → Prop} {W : World} {B : Nat} {v : Value} {xs : List Du} (x : Du) (hgd : o.guard = none) (s y : Operand)
  (ho : o.op = .call { callee := .builtin .append, args := #[s, y], argTypes := #[24, 24] }) (hs : a.eval s = v) (hr : DV W B v xs) (gx : Nat)
  (hy : a.eval y = .slice (some ⟨gx, 0, none⟩) 1 1) (hb : Bk.Blk W gx (denc x).toArray 53) (hl : xs.length ≤ 100000) (hB : B ≤ W.heap.size)
  (h : ∀ g c w', DV w' B (.slice (some ⟨g, 0, none⟩) (xs.length + 1) c) (xs ++ [x]) → W.grownBy w' v.ownBlock → g < w'.heap.size → K (a.put o.dst (.slice (some ⟨g, 0, none⟩) (xs.length + 1) c)) w') : Oper.wp Tryz.prog o a W K Q := by
 obtain ⟨i, hi, hzz⟩ := Option.map_eq_some_iff.1 Ln.due_info
 simp only [Prod.mk.injEq] at hzz
 obtain ⟨hz, hsz, hby⟩ := hzz
 have hw : Region.wanted o (yielded ops a.tmps) = true := by simp [Region.wanted, hgd]
 have H := step_append_lies (P := Tryz.prog) (ops := ops) (o := o) (a := a) (w := W) (K := K) (Q := Q) (E := False) hgd s y 24 ho B 53 i _ 4 32 Tryz.underlying24 hi hz hsz hby rfl (by decide) v xs.length (flat denc xs) hs hr.1 ⟨gx, 0, none⟩ 1 1 (denc x) hy rfl (by
  intro j u hj
  rw [show (⟨gx, 0, none⟩ : Addr).add j = ⟨gx, 0 + j, none⟩ from Go.WideShapes.add_plain .., Nat.zero_add, hb.cell]
  simpa using hj) (denc_one x) (by omega) (by unfold maxLen; omega) (by omega) hB _ rfl (fun g c w' hown hgr hat hlt => by
  refine h g c w' ?_ hgr hlt
  have e : flat denc xs ++ denc x = flat denc (xs ++ [x]) := by simp [flat]
  rw [e] at hown
  refine ⟨?_, some ⟨g, 0, none⟩, c, by simp⟩
  simpa using hown)
 rw [if_pos hw] at H
 exact H
theorem grown_sb {w W w1 : World} {v : Value} {xs : List Du} (hb : Below w.heap.size w W) (hr : DV W w.heap.size v xs) (hg : W.grownBy w1 v.ownBlock) : Below w.heap.size w w1 :=
 hb.grown hg (Below.size hb) (fun j hj => (hr.lt j hj).2)
theorem key1_of' {G : Prop} {A0 : Type} (Q P : A0 → Prop) (h1 : (∀ (x0 : A0), Q x0 → P x0) → G) (h2 : ∀ (x0 : A0), Q x0 → P x0) : G := h1 h2
set_option maxHeartbeats 32000000 in
theorem partial_any (l : Lo) (da ca : Option Addr) (dk ck : Nat) (a day keep : Int) (c : Cl) (wa ha : Option Addr) (wc hc : Nat) (w : World) (h : DuesIn w da l.ds) (hcs : RowIn cenc w ca l.cs) (hdk : l.ds.length ≤ dk) (hcn : l.cs.length ≤ 100000) (hcal : CalIn w c wa ha) (hcu : l.tm.cur.size ≤ maxLen) (hS : Stp w) :
  Calls Tryz.prog 17 #[(.agg #[.int .i64 (l).id, .int .i64 (l).ac, .int .i64 (l).st, .int .i64 (l).pp, .int .i64 (l).pi, .int .i64 (l).fee, .int .i64 (l).pen, .int .i64 (l).chg, .int .i64 (l).prov, .int .i64 (l).loss, .int .i64 (l).rcv, .int .i64 ((l).tm).me, .int .i64 ((l).tm).pr, .int .i64 ((l).tm).ppm, .int .i64 ((l).tm).stt, .int .i64 ((l).tm).ev, .int .i64 ((l).tm).ct, .int .i64 ((l).tm).ba, .int .i64 ((l).tm).mo, .int .i64 ((l).tm).pen, .int .i64 ((l).tm).fe, .string ((l).tm).cal, .string ((l).tm).cur, .slice da (l).ds.length dk, .slice ca (l).cs.length ck]), .int .i64 a, .int .i64 day, .int .i64 keep, (.agg #[.string (c).nm, .slice wa (c).wk.length wc, .slice ha (c).hol.length hc])] w (PaO l a day keep c w) := by
 have cw : Below w.heap.size w (((w.alloc (.cells #[.int .i64 (l).id, .int .i64 (l).ac, .int .i64 (l).st, .int .i64 (l).pp, .int .i64 (l).pi, .int .i64 (l).fee, .int .i64 (l).pen, .int .i64 (l).chg, .int .i64 (l).prov, .int .i64 (l).loss, .int .i64 (l).rcv, .int .i64 ((l).tm).me, .int .i64 ((l).tm).pr, .int .i64 ((l).tm).ppm, .int .i64 ((l).tm).stt, .int .i64 ((l).tm).ev, .int .i64 ((l).tm).ct, .int .i64 ((l).tm).ba, .int .i64 ((l).tm).mo, .int .i64 ((l).tm).pen, .int .i64 ((l).tm).fe, .string ((l).tm).cal, .string ((l).tm).cur, .slice da (l).ds.length dk, .slice ca (l).cs.length ck] 27)).alloc (.cells #[.string c.nm, .slice wa c.wk.length wc, .slice ha c.hol.length hc] 44)).alloc (.cells #[.int .i64 0, .int .i64 0, .int .i64 0, .int .i64 0, .int .i64 0, .int .i64 0, .int .i64 0, .int .i64 0, .int .i64 0, .int .i64 0, .int .i64 0, .int .i64 0, .int .i64 0, .int .i64 0, .int .i64 0, .int .i64 0, .int .i64 0, .int .i64 0, .int .i64 0, .int .i64 0, .int .i64 0, .string { data := #[] }, .string { data := #[] }, .slice none 0 0, .slice none 0 0] 27)) := (((Below.refl _ _).alloc (Nat.le_refl _) _).alloc (by simp) _).alloc (by simp; omega) _
 have k0 : Bk.Blk (((w.alloc (.cells #[.int .i64 (l).id, .int .i64 (l).ac, .int .i64 (l).st, .int .i64 (l).pp, .int .i64 (l).pi, .int .i64 (l).fee, .int .i64 (l).pen, .int .i64 (l).chg, .int .i64 (l).prov, .int .i64 (l).loss, .int .i64 (l).rcv, .int .i64 ((l).tm).me, .int .i64 ((l).tm).pr, .int .i64 ((l).tm).ppm, .int .i64 ((l).tm).stt, .int .i64 ((l).tm).ev, .int .i64 ((l).tm).ct, .int .i64 ((l).tm).ba, .int .i64 ((l).tm).mo, .int .i64 ((l).tm).pen, .int .i64 ((l).tm).fe, .string ((l).tm).cal, .string ((l).tm).cur, .slice da (l).ds.length dk, .slice ca (l).cs.length ck] 27)).alloc (.cells #[.string c.nm, .slice wa c.wk.length wc, .slice ha c.hol.length hc] 44)).alloc (.cells #[.int .i64 0, .int .i64 0, .int .i64 0, .int .i64 0, .int .i64 0, .int .i64 0, .int .i64 0, .int .i64 0, .int .i64 0, .int .i64 0, .int .i64 0, .int .i64 0, .int .i64 0, .int .i64 0, .int .i64 0, .int .i64 0, .int .i64 0, .int .i64 0, .int .i64 0, .int .i64 0, .int .i64 0, .string { data := #[] }, .string { data := #[] }, .slice none 0 0, .slice none 0 0] 27)) w.heap.size _ 27 := Bk.Blk.nw30
 have kc : Bk.Blk (((w.alloc (.cells #[.int .i64 (l).id, .int .i64 (l).ac, .int .i64 (l).st, .int .i64 (l).pp, .int .i64 (l).pi, .int .i64 (l).fee, .int .i64 (l).pen, .int .i64 (l).chg, .int .i64 (l).prov, .int .i64 (l).loss, .int .i64 (l).rcv, .int .i64 ((l).tm).me, .int .i64 ((l).tm).pr, .int .i64 ((l).tm).ppm, .int .i64 ((l).tm).stt, .int .i64 ((l).tm).ev, .int .i64 ((l).tm).ct, .int .i64 ((l).tm).ba, .int .i64 ((l).tm).mo, .int .i64 ((l).tm).pen, .int .i64 ((l).tm).fe, .string ((l).tm).cal, .string ((l).tm).cur, .slice da (l).ds.length dk, .slice ca (l).cs.length ck] 27)).alloc (.cells #[.string c.nm, .slice wa c.wk.length wc, .slice ha c.hol.length hc] 44)).alloc (.cells #[.int .i64 0, .int .i64 0, .int .i64 0, .int .i64 0, .int .i64 0, .int .i64 0, .int .i64 0, .int .i64 0, .int .i64 0, .int .i64 0, .int .i64 0, .int .i64 0, .int .i64 0, .int .i64 0, .int .i64 0, .int .i64 0, .int .i64 0, .int .i64 0, .int .i64 0, .int .i64 0, .int .i64 0, .string { data := #[] }, .string { data := #[] }, .slice none 0 0, .slice none 0 0] 27)) (w.heap.size + 1) _ 44 := Bk.Blk.nw31
 have kz : Bk.Blk (((w.alloc (.cells #[.int .i64 (l).id, .int .i64 (l).ac, .int .i64 (l).st, .int .i64 (l).pp, .int .i64 (l).pi, .int .i64 (l).fee, .int .i64 (l).pen, .int .i64 (l).chg, .int .i64 (l).prov, .int .i64 (l).loss, .int .i64 (l).rcv, .int .i64 ((l).tm).me, .int .i64 ((l).tm).pr, .int .i64 ((l).tm).ppm, .int .i64 ((l).tm).stt, .int .i64 ((l).tm).ev, .int .i64 ((l).tm).ct, .int .i64 ((l).tm).ba, .int .i64 ((l).tm).mo, .int .i64 ((l).tm).pen, .int .i64 ((l).tm).fe, .string ((l).tm).cal, .string ((l).tm).cur, .slice da (l).ds.length dk, .slice ca (l).cs.length ck] 27)).alloc (.cells #[.string c.nm, .slice wa c.wk.length wc, .slice ha c.hol.length hc] 44)).alloc (.cells #[.int .i64 0, .int .i64 0, .int .i64 0, .int .i64 0, .int .i64 0, .int .i64 0, .int .i64 0, .int .i64 0, .int .i64 0, .int .i64 0, .int .i64 0, .int .i64 0, .int .i64 0, .int .i64 0, .int .i64 0, .int .i64 0, .int .i64 0, .int .i64 0, .int .i64 0, .int .i64 0, .int .i64 0, .string { data := #[] }, .string { data := #[] }, .slice none 0 0, .slice none 0 0] 27)) (w.heap.size + 2) _ 27 := Bk.Blk.nw32
 have hd := h.later cw
 have HD := Lib.hid (fun W (hW : Below w.heap.size w W) => h.later hW)
 have HC := Lib.hid (fun W (hW : Below w.heap.size w W) => hcs.later hW)
 have HCL := Lib.hid (fun W (hW : Below w.heap.size w W) => hcal.later hW)
 have HST := Lib.hid (fun W (hW : Below w.heap.size w W) => hS.of hW)
 clear h hS hcs hcal
 go_enter Tryz.func17, Tryz.ntmps17
 go_upto_region 1 with fail
 generalize (((w.alloc (.cells _ 27)).alloc (.cells _ 44)).alloc (.cells _ 27)) = w1 at *
 have cw1 := cw
 clear cw
 go_wp2_with (refine wpList_load_row rfl 27 _ rfl _ rfl _ _ _ _ k0 Tryz.underlying27 rfl (by kernel_rfl) ?_)
 by_cases hop : chk l = 0 ∧ 0 ≤ day ∧ day ≤ 73048
 ·have ho := ok_iff.1 hop.1
  refine (open_ok l da ca dk ck day _ hd hop.1 hop.2 (by have := ho.n2; omega) hdk).mono ?_
  rintro e w2 ⟨a2, k2, rfl, hd2, hb⟩
  replace k0 := k0.later hb
  replace kc := kc.later hb
  replace kz := kz.later hb
  have cw2 := bl2 hb cw1
  clear hb cw1
  have hkz2 := kz.lt
  go_upto_region 2 with (refine wpList_store_row rfl 56 _ _ rfl _ _ rfl rfl _ _ Bk.Blk.nw10 (by kernel_rfl) rfl (by simp [Value.oneCell', denc]) ?_)
  have hbv : Below w2.heap.size w2 ((w2.alloc (.cells #[.int .i64 0, .int .i64 0, .int .i64 0, .int .i64 0, .int .i64 0, .int .i64 0, .int .i64 0, .int .i64 0, .int .i64 0, .int .i64 0, .int .i64 0, .int .i64 0, .int .i64 0, .int .i64 0, .int .i64 0, .int .i64 0, .int .i64 0, .int .i64 0, .int .i64 0, .int .i64 0, .int .i64 0, .string { data := #[] }, .string { data := #[] }, .slice none 0 0, .slice none 0 0, .slice none 0 0, .slice none 0 0] 56)).setRow w2.heap.size #[.int .i64 (l).id, .int .i64 (l).ac, .int .i64 (l).st, .int .i64 (l).pp, .int .i64 (l).pi, .int .i64 (l).fee, .int .i64 (l).pen, .int .i64 (l).chg, .int .i64 (l).prov, .int .i64 (l).loss, .int .i64 (l).rcv, .int .i64 ((l).tm).me, .int .i64 ((l).tm).pr, .int .i64 ((l).tm).ppm, .int .i64 ((l).tm).stt, .int .i64 ((l).tm).ev, .int .i64 ((l).tm).ct, .int .i64 ((l).tm).ba, .int .i64 ((l).tm).mo, .int .i64 ((l).tm).pen, .int .i64 ((l).tm).fe, .string ((l).tm).cal, .string ((l).tm).cur, .slice da (l).ds.length dk, .slice ca (l).cs.length ck, .slice da (fst l day).length dk, .slice a2 (snd l day).length k2]) := Below_setRow ((Below.refl _ _).alloc (Nat.le_refl _) _) (Nat.le_refl _) _
  have kv : Bk.Blk ((w2.alloc (.cells #[.int .i64 0, .int .i64 0, .int .i64 0, .int .i64 0, .int .i64 0, .int .i64 0, .int .i64 0, .int .i64 0, .int .i64 0, .int .i64 0, .int .i64 0, .int .i64 0, .int .i64 0, .int .i64 0, .int .i64 0, .int .i64 0, .int .i64 0, .int .i64 0, .int .i64 0, .int .i64 0, .int .i64 0, .string { data := #[] }, .string { data := #[] }, .slice none 0 0, .slice none 0 0, .slice none 0 0, .slice none 0 0] 56)).setRow w2.heap.size #[.int .i64 (l).id, .int .i64 (l).ac, .int .i64 (l).st, .int .i64 (l).pp, .int .i64 (l).pi, .int .i64 (l).fee, .int .i64 (l).pen, .int .i64 (l).chg, .int .i64 (l).prov, .int .i64 (l).loss, .int .i64 (l).rcv, .int .i64 ((l).tm).me, .int .i64 ((l).tm).pr, .int .i64 ((l).tm).ppm, .int .i64 ((l).tm).stt, .int .i64 ((l).tm).ev, .int .i64 ((l).tm).ct, .int .i64 ((l).tm).ba, .int .i64 ((l).tm).mo, .int .i64 ((l).tm).pen, .int .i64 ((l).tm).fe, .string ((l).tm).cal, .string ((l).tm).cur, .slice da (l).ds.length dk, .slice ca (l).cs.length ck, .slice da (fst l day).length dk, .slice a2 (snd l day).length k2]) w2.heap.size _ 56 := Blk_setRow_same Bk.Blk.nw10
  have cw3 := bl2 hbv cw2
  replace kz := kz.later hbv
  replace k0 := k0.later hbv
  replace kc := kc.later hbv
  have hgv : w.heap.size + 2 < w2.heap.size := hkz2
  clear cw2 hkz2
  generalize ((w2.alloc (.cells _ 56)).setRow w2.heap.size _) = w3 at *
  generalize w2.heap.size = gv at *
  have HSN := Lib.hid hd2
  have HDA := Lib.hid (fun W (hW : Below w3.heap.size w3 W) => HD.out W (bl2 hW cw3))
  have HD2 := Lib.hid (fun W (hW : Below w3.heap.size w3 W) => HSN.out W (HDA.out W hW))
  have HOP := Lib.hid hop
  clear hop hd2 hd
  go_wp2_with (first | (refine wpList_load_row rfl 27 _ rfl _ rfl _ _ _ _ k0 Tryz.underlying27 rfl (by kernel_rfl) ?_) | (refine wpList_load_row rfl 44 _ rfl _ rfl _ _ _ _ kc Tryz.underlying44 rfl (by kernel_rfl) ?_))
  refine (allowed_any l da ca dk ck a day keep c wa ha wc hc _ (HDA.out _ (Below.refl _ _)) ho (HCL.out _ cw3) hcu (HST.out _ cw3)).mono ?_
  rintro e w4 ⟨rfl, hb⟩
  have cw4 := bl2 hb cw3
  have d4 := hb
  replace k0 := k0.later hb
  replace kz := kz.later hb
  replace kv := kv.later hb
  clear hb cw3 kc
  by_cases he : alE l a day keep c = 0
  ·rw [if_pos he]
   have HE := Lib.hid he
   have hA := al_parts HOP.out.1 HOP.out.2 he
   have hv := view ho day
   have hpd : paid l a = a - feV l a := rfl
   have a1 := hA.a0
   have a2_ := hA.a1
   have a3 := hA.p0
   have a4 := hA.p1
   have a5 := hA.p2
   have a6 := hA.pp
   have a7 := hA.pi
   have pp0 := ho.pp
   have pp1 := ho.pp'
   have pi0 := ho.pi
   have pi1 := ho.pi'
   have v1 := hv.P2
   have v2 := hv.I2
   have v3 := hv.p0
   have v4 := hv.i0
   have HVW := Lib.hid hv
   have HAL := Lib.hid hA
   clear hv hA hpd
   have g1 : (alE l a day keep c != 0) = false := by rw [he]; rfl
   clear he
   generalize alE l a day keep c = E at g1 ⊢
   have hfl := fst_len l day
   have hal := at_le l day
   have hn2 := ho.n2
   have HFL := Lib.hid hfl
   have HO2 := Lib.hid (show one2 l a day = ⟨((fst l day).length : Int) + 1, day, l.pp - P (fst l day) + paid l a, l.pi - I (fst l day)⟩ by rw [HFL.out]; rfl)
   have HRS := Lib.hid (show rst l a = P l.ds - l.pp - paid l a from rfl)
   have hfn : (fst l day).length ≤ 240 := by omega
   clear hfl hal
   obtain ⟨pd, hpd⟩ : ∃ p, p = paid l a := ⟨_, rfl⟩
   obtain ⟨PF, hPF⟩ : ∃ p, p = P (fst l day) := ⟨_, rfl⟩
   obtain ⟨IF, hIF⟩ : ∃ p, p = I (fst l day) := ⟨_, rfl⟩
   rw [← hPF] at v3 a6
   rw [← hIF] at v4 a7
   rw [← hpd] at a3 a4 a5 ⊢
   rw [← hpd, ← hPF, ← hIF] at HO2
   rw [← hpd] at HRS
   have HPD := Lib.hid hpd
   clear hpd
   have l25 := kv.c25
   go_wp2_with fail
   clear l25
   refine (Kl.stotal_any da dk (fst l day) _ (dues_fst (HDA.out _ d4) _)).mono ?_
   rintro e w5 ⟨rfl, hb⟩
   rw [← hPF, ← hIF]
   have cw5 := bl2 hb cw4
   have d5 := bl2 hb d4
   replace k0 := k0.later hb
   replace kz := kz.later hb
   replace kv := kv.later hb
   clear hb cw4 d4 hPF hIF
   have s1 : IntKind.i64.wrap (((fst l day).length : Int) + 1) = ((fst l day).length : Int) + 1 := by rw [IntKind.wrap_i64]; omega
   have s2 : IntKind.i64.wrap (l.pp - PF) = l.pp - PF := by rw [IntKind.wrap_i64]; omega
   have s3 : IntKind.i64.wrap (l.pp - PF + pd) = l.pp - PF + pd := by rw [IntKind.wrap_i64]; omega
   have s4 : IntKind.i64.wrap (l.pi - IF) = l.pi - IF := by rw [IntKind.wrap_i64]; omega
   have l25 := kv.c25
   have l3 := k0.c3
   have l4 := k0.c4
   go_upto_region 9 with (refine wpList_store_row rfl 53 _ _ rfl _ _ rfl rfl _ _ Bk.Blk.nw10 (by kernel_rfl) rfl (by simp [Value.oneCell', denc]) ?_)
   clear l25 l3 l4
   have hbx : Below w5.heap.size w5 ((w5.alloc (.cells #[.int .i64 0, .int .i64 0, .int .i64 0, .int .i64 0] 53)).setRow w5.heap.size #[.int .i64 (((fst l day).length : Int) + 1), .int .i64 day, .int .i64 (l.pp - PF + pd), .int .i64 (l.pi - IF)]) := Below_setRow ((Below.refl _ _).alloc (Nat.le_refl _) _) (Nat.le_refl _) _
   have k1 : Bk.Blk ((w5.alloc (.cells #[.int .i64 0, .int .i64 0, .int .i64 0, .int .i64 0] 53)).setRow w5.heap.size #[.int .i64 (((fst l day).length : Int) + 1), .int .i64 day, .int .i64 (l.pp - PF + pd), .int .i64 (l.pi - IF)]) w5.heap.size _ 53 := Blk_setRow_same Bk.Blk.nw10
   have hg1 := kv.lt
   have cw6 := bl2 hbx cw5
   have d6 := bl2 hbx d5
   replace k0 := k0.later hbx
   replace kz := kz.later hbx
   replace kv := kv.later hbx
   clear hbx cw5 d5 s1 s2 s3 s4
   generalize ((w5.alloc (.cells _ 53)).setRow w5.heap.size _) = w6 at *
   generalize w5.heap.size = g1_ at *
   have HOU := Lib.hid (fun W (hW : SB w6 W) => Ln.out_any l da ca dk ck W (HDA.out _ (bl2 hW d6)))
   rw [show wrap64 (P l.ds - l.pp) = P l.ds - l.pp by unfold wrap64; omega] at HOU
   obtain ⟨O, hO⟩ : ∃ O, O = P l.ds - l.pp := ⟨_, rfl⟩
   rw [← hO] at HOU HRS a4
   have o1 : O ≤ 240000000000000 := by omega
   clear hO
   have s1 : IntKind.i64.wrap (O - pd) = O - pd := by rw [IntKind.wrap_i64]; omega
   have hS0 : SB w6 w6.drew := (Below.refl _ _).drew
   go_upto_region 9 with fail
   apply key2_of (fun (W : World) (g17 : Nat) => SB w6 W ∧ Bk.Blk W g17 #[.int .i64 (l.tm).me, .int .i64 (l.tm).pr, .int .i64 (l.tm).ppm, .int .i64 (l.tm).stt, .int .i64 (l.tm).ev, .int .i64 (l.tm).ct, .int .i64 (l.tm).ba, .int .i64 (l.tm).mo, .int .i64 (l.tm).pen, .int .i64 (l.tm).fe, .string (l.tm).cal, .string (l.tm).cur, .int .i64 (O - pd), .int .i64 ((snd l day).length : Int), .int .i64 0, .int .i64 keep] 80 ∧ w6.heap.size ≤ g17)
   ·intro KEY
    refine wp_region_held_drew (S := SB w6) (by kernel_rfl) hS0 (fun hS => ?_)
    refine tk 0 (by decide) ?_ hS (by kernel_rfl) (by kernel_rfl) (by kernel_rfl) (by rfl) (fun _ _ _ h => h) ?_ ?_
    rotate_left
    ·intro W hW
     clear hW
     simp only [z0, z1]
     go_simp
     first | done | with_reducible rfl
    simp only [z0, z1, Act.put, z3, z4, z5]
    refine take_at 2 (by decide) (by kernel_rfl) (by kernel_rfl) (by kernel_rfl) (fun _ _ _ h => h) hS (yields_load_row (by rfl) 27 (.tmp 5) rfl w.heap.size rfl _ _ _ _ (fun W hW => (k0.later hW)) Tryz.underlying27 rfl (by kernel_rfl)) ?_
    simp only [z0, z1, Act.put, z3, z4, z5]
    refine tk 4 (by decide) ?_ hS (by kernel_rfl) (by kernel_rfl) (by kernel_rfl) (by rfl) (fun _ _ _ h => h) ?_ ?_
    rotate_left
    ·intro W hW
     clear hW
     simp only [z0, z1]
     go_simp
     first | done | with_reducible rfl
    simp only [z0, z1, Act.put, z3, z4, z5]
    refine tk 6 (by decide) ?_ hS (by kernel_rfl) (by kernel_rfl) (by kernel_rfl) (by rfl) (fun _ _ _ h => h) ?_ ?_
    rotate_left
    ·intro W hW
     clear hW
     simp only [z0, z1]
     go_simp
     first | done | with_reducible rfl
    simp only [z0, z1, Act.put, z3, z4, z5]
    refine tk 9 (by decide) ?_ hS (by kernel_rfl) (by kernel_rfl) (by kernel_rfl) (by rfl) (fun _ _ _ h => h) ?_ ?_
    rotate_left
    ·intro W hW
     clear hW
     simp only [z0, z1]
     go_simp
     first | done | with_reducible rfl
    simp only [z0, z1, Act.put, z3, z4, z5]
    refine take_at 1 (by decide) (by kernel_rfl) (by kernel_rfl) (by kernel_rfl) (fun _ _ _ h => h) hS (yieldsIf_load_mid (by rfl) 23 (.tmp 66) rfl w.heap.size 11 rfl [.int .i64 (l.tm).me, .int .i64 (l.tm).pr, .int .i64 (l.tm).ppm, .int .i64 (l.tm).stt, .int .i64 (l.tm).ev, .int .i64 (l.tm).ct, .int .i64 (l.tm).ba, .int .i64 (l.tm).mo, .int .i64 (l.tm).pen, .int .i64 (l.tm).fe, .string (l.tm).cal, .string (l.tm).cur] _ (fun W hW => Ln.tm_range (k0.later hW)) Tryz.underlying23 rfl (by kernel_rfl)) ?_
    simp only [z0, z1, Act.put, z3, z4, z5]
    refine tk 7 (by decide) ?_ hS (by kernel_rfl) (by kernel_rfl) (by kernel_rfl) (by rfl) (fun _ _ _ h => h) ?_ ?_
    rotate_left
    ·intro W hW
     have q := (kv.later hW).c26
     clear hW
     simp only [z0, z1]
     go_simp
     first | done | with_reducible rfl
    simp only [z0, z1, Act.put, z3, z4, z5]
    refine tk 8 (by decide) ?_ hS (by kernel_rfl) (by kernel_rfl) (by kernel_rfl) (by rfl) (fun _ _ _ h => h) ?_ ?_
    rotate_left
    ·intro W hW
     clear hW
     simp only [z0, z1]
     go_simp
     first | done | with_reducible rfl
    simp only [z0, z1, Act.put, z3, z4, z5]
    refine two_at 3 11 (by decide) (by decide) (by kernel_rfl) (by rfl) (by rfl) (fun K hK => ?_) (fun K hK => ?_)
    ·refine call_wp (by simp only [z0, z1]; go_simp; first | done | rfl | exact ⟨rfl, rfl⟩) ((HOU.out _ hS).mono ?_)
     rintro e u0 ⟨rfl, hb⟩
     have hT := SB.mono _ _ hS hb
     refine ⟨_, rfl, hK.out _ _ hT (fun hT' => ?_)⟩
     clear hT' hS hK hb
     have hS := hT
     clear hT
     simp only [z0, z1, Act.put, z3, z4, z5]
     refine tk 5 (by decide) ?_ hS (by kernel_rfl) (by kernel_rfl) (by kernel_rfl) (by rfl) (fun _ _ _ h => h) ?_ ?_
     rotate_left
     ·intro W hW
      clear hW
      simp only [z0, z1]
      go_simp
      first | done | with_reducible rfl
     simp only [z0, z1, Act.put, z3, z4, z5]
     refine tk 10 (by decide) ?_ hS (by kernel_rfl) (by kernel_rfl) (by kernel_rfl) (by rfl) (fun _ _ _ h => h) ?_ ?_
     rotate_left
     ·intro W hW
      clear hW
      simp only [z0, z1]
      go_simp
      first | done | with_reducible rfl
     simp only [z0, z1, Act.put, z3, z4, z5]
     refine one_at 11 (by decide) (by kernel_rfl) (by rfl) (fun K hK => ?_)
     refine value_wp (by simp only [z0, z1]; go_simp; first | done | rfl | exact ⟨rfl, rfl⟩) ?_
     have hX : Below u0.heap.size u0 (u0.alloc (.cells #[.int .i64 0, .int .i64 0, .int .i64 0, .int .i64 0, .int .i64 0, .int .i64 0, .int .i64 0, .int .i64 0, .int .i64 0, .int .i64 0, .string { data := #[] }, .string { data := #[] }, .int .i64 0, .int .i64 0, .int .i64 0, .int .i64 0] 80)) := (Below.refl _ _).alloc (Nat.le_refl _) _
     have hT : SB w6 (u0.alloc (.cells #[.int .i64 0, .int .i64 0, .int .i64 0, .int .i64 0, .int .i64 0, .int .i64 0, .int .i64 0, .int .i64 0, .int .i64 0, .int .i64 0, .string { data := #[] }, .string { data := #[] }, .int .i64 0, .int .i64 0, .int .i64 0, .int .i64 0] 80)) := SB.mono _ _ hS hX
     have hN : Bk.Blk (u0.alloc (.cells #[.int .i64 0, .int .i64 0, .int .i64 0, .int .i64 0, .int .i64 0, .int .i64 0, .int .i64 0, .int .i64 0, .int .i64 0, .int .i64 0, .string { data := #[] }, .string { data := #[] }, .int .i64 0, .int .i64 0, .int .i64 0, .int .i64 0] 80)) u0.heap.size _ 80 := Bk.Blk.nw10
     have hg : w6.heap.size ≤ u0.heap.size := Below.size hS
     have hlt := hN.lt
     refine hK.out _ _ hT (fun hT' => ?_)
     clear hT' hS hK hX
     have hS := hT
     clear hT
     simp only [z0, z1, Act.put, z3, z4, z5]
     generalize (u0.alloc (.cells _ 80)) = v1 at *
     obtain ⟨ga1, eg⟩ : ∃ g, g = u0.heap.size := ⟨_, rfl⟩
     rw [← eg] at hN hlt ⊢
     replace hg : w6.heap.size ≤ ga1 := by omega
     clear eg
     refine one_at 12 (by decide) (by kernel_rfl) (by rfl) (fun K hK => ?_)
     simp only [z0, z1]
     refine wp_store_row 80 _ _ rfl ga1 _ rfl rfl _ _ hN (by kernel_rfl) rfl (by simp [Value.oneCell']) ?_
     have hT : SB w6 (v1.setRow ga1 #[.int .i64 (l.tm).me, .int .i64 (l.tm).pr, .int .i64 (l.tm).ppm, .int .i64 (l.tm).stt, .int .i64 (l.tm).ev, .int .i64 (l.tm).ct, .int .i64 (l.tm).ba, .int .i64 (l.tm).mo, .int .i64 (l.tm).pen, .int .i64 (l.tm).fe, .string (l.tm).cal, .string (l.tm).cur, .int .i64 (O - pd), .int .i64 ((snd l day).length : Int), .int .i64 0, .int .i64 keep]) := Below_setRow hS hg _
     have hz17 : Bk.Blk (v1.setRow ga1 #[.int .i64 (l.tm).me, .int .i64 (l.tm).pr, .int .i64 (l.tm).ppm, .int .i64 (l.tm).stt, .int .i64 (l.tm).ev, .int .i64 (l.tm).ct, .int .i64 (l.tm).ba, .int .i64 (l.tm).mo, .int .i64 (l.tm).pen, .int .i64 (l.tm).fe, .string (l.tm).cal, .string (l.tm).cur, .int .i64 (O - pd), .int .i64 ((snd l day).length : Int), .int .i64 0, .int .i64 keep]) ga1 _ 80 := Blk_setRow_same hN
     refine hK.out _ _ hT (fun hT' => ?_)
     clear hT' hS hK
     have hS := hT
     clear hT
     simp only [z0, z1, Act.put, z3, z4, z5]
     generalize (v1.setRow ga1 #[.int .i64 (l.tm).me, .int .i64 (l.tm).pr, .int .i64 (l.tm).ppm, .int .i64 (l.tm).stt, .int .i64 (l.tm).ev, .int .i64 (l.tm).ct, .int .i64 (l.tm).ba, .int .i64 (l.tm).mo, .int .i64 (l.tm).pen, .int .i64 (l.tm).fe, .string (l.tm).cal, .string (l.tm).cur, .int .i64 (O - pd), .int .i64 ((snd l day).length : Int), .int .i64 0, .int .i64 keep]) = ws at *
     refine wpAnyH_done (by kernel_rfl) ?_ _
     exact KEY ws ga1 ⟨hS, hz17, hg⟩
    ·refine value_wp (by simp only [z0, z1]; go_simp; first | done | rfl | exact ⟨rfl, rfl⟩) ?_
     have hT : SB w6 ((w6.alloc (.cells #[.int .i64 0, .int .i64 0, .int .i64 0, .int .i64 0, .int .i64 0, .int .i64 0, .int .i64 0, .int .i64 0, .int .i64 0, .int .i64 0, .string { data := #[] }, .string { data := #[] }, .int .i64 0, .int .i64 0, .int .i64 0, .int .i64 0] 80)).drew) := ((Below.refl _ _).alloc (Nat.le_refl _) _).drew
     have hX := hT
     have hN : Bk.Blk ((w6.alloc (.cells #[.int .i64 0, .int .i64 0, .int .i64 0, .int .i64 0, .int .i64 0, .int .i64 0, .int .i64 0, .int .i64 0, .int .i64 0, .int .i64 0, .string { data := #[] }, .string { data := #[] }, .int .i64 0, .int .i64 0, .int .i64 0, .int .i64 0] 80)).drew) w6.heap.size _ 80 := Bk.Blk.drew Bk.Blk.nw10
     have hg : w6.heap.size ≤ w6.heap.size := Nat.le_refl _
     have hlt := hN.lt
     refine hK.out _ _ hT (fun hT' => ?_)
     clear hT' hS hK hX
     have hS := hT
     clear hT
     simp only [z0, z1, Act.put, z3, z4, z5]
     generalize ((w6.alloc (.cells _ 80)).drew) = v0 at *
     obtain ⟨ga0, eg⟩ : ∃ g, g = w6.heap.size := ⟨_, rfl⟩
     rw [← eg] at hN hlt ⊢
     replace hg : w6.heap.size ≤ ga0 := by omega
     clear eg
     refine one_at 3 (by decide) (by kernel_rfl) (by rfl) (fun K hK => ?_)
     refine call_wp (by simp only [z0, z1]; go_simp; first | done | rfl | exact ⟨rfl, rfl⟩) ((HOU.out _ hS).mono ?_)
     rintro e u1 ⟨rfl, hb⟩
     have hT := SB.mono _ _ hS hb
     replace hN := hN.later hb
     refine ⟨_, rfl, hK.out _ _ hT (fun hT' => ?_)⟩
     clear hT' hS hK hb
     have hS := hT
     clear hT
     simp only [z0, z1, Act.put, z3, z4, z5]
     refine tk 5 (by decide) ?_ hS (by kernel_rfl) (by kernel_rfl) (by kernel_rfl) (by rfl) (fun _ _ _ h => h) ?_ ?_
     rotate_left
     ·intro W hW
      clear hW
      simp only [z0, z1]
      go_simp
      first | done | with_reducible rfl
     simp only [z0, z1, Act.put, z3, z4, z5]
     refine tk 10 (by decide) ?_ hS (by kernel_rfl) (by kernel_rfl) (by kernel_rfl) (by rfl) (fun _ _ _ h => h) ?_ ?_
     rotate_left
     ·intro W hW
      clear hW
      simp only [z0, z1]
      go_simp
      first | done | with_reducible rfl
     simp only [z0, z1, Act.put, z3, z4, z5]
     refine one_at 12 (by decide) (by kernel_rfl) (by rfl) (fun K hK => ?_)
     simp only [z0, z1]
     refine wp_store_row 80 _ _ rfl ga0 _ rfl rfl _ _ hN (by kernel_rfl) rfl (by simp [Value.oneCell']) ?_
     have hT : SB w6 (u1.setRow ga0 #[.int .i64 (l.tm).me, .int .i64 (l.tm).pr, .int .i64 (l.tm).ppm, .int .i64 (l.tm).stt, .int .i64 (l.tm).ev, .int .i64 (l.tm).ct, .int .i64 (l.tm).ba, .int .i64 (l.tm).mo, .int .i64 (l.tm).pen, .int .i64 (l.tm).fe, .string (l.tm).cal, .string (l.tm).cur, .int .i64 (O - pd), .int .i64 ((snd l day).length : Int), .int .i64 0, .int .i64 keep]) := Below_setRow hS hg _
     have hz17 : Bk.Blk (u1.setRow ga0 #[.int .i64 (l.tm).me, .int .i64 (l.tm).pr, .int .i64 (l.tm).ppm, .int .i64 (l.tm).stt, .int .i64 (l.tm).ev, .int .i64 (l.tm).ct, .int .i64 (l.tm).ba, .int .i64 (l.tm).mo, .int .i64 (l.tm).pen, .int .i64 (l.tm).fe, .string (l.tm).cal, .string (l.tm).cur, .int .i64 (O - pd), .int .i64 ((snd l day).length : Int), .int .i64 0, .int .i64 keep]) ga0 _ 80 := Blk_setRow_same hN
     refine hK.out _ _ hT (fun hT' => ?_)
     clear hT' hS hK
     have hS := hT
     clear hT
     simp only [z0, z1, Act.put, z3, z4, z5]
     generalize (u1.setRow ga0 #[.int .i64 (l.tm).me, .int .i64 (l.tm).pr, .int .i64 (l.tm).ppm, .int .i64 (l.tm).stt, .int .i64 (l.tm).ev, .int .i64 (l.tm).ct, .int .i64 (l.tm).ba, .int .i64 (l.tm).mo, .int .i64 (l.tm).pen, .int .i64 (l.tm).fe, .string (l.tm).cal, .string (l.tm).cur, .int .i64 (O - pd), .int .i64 ((snd l day).length : Int), .int .i64 0, .int .i64 keep]) = ws at *
     refine wpAnyH_done (by kernel_rfl) ?_ _
     exact KEY ws ga0 ⟨hS, hz17, hg⟩
   ·intro w7 gp ⟨hS7, kp, hgp6⟩
    have hq1 := k1.lt
    have hq2 := Below.size d6
    have cw7 := bl2 hS7 cw6
    have d7 := bl2 hS7 d6
    replace k0 := k0.later hS7
    replace kz := kz.later hS7
    replace kv := kv.later hS7
    replace k1 := k1.later hS7
    clear hS7 cw6 d6 HOU hS0 s1
    have l12 := kp.c12
    go_wp2_with fail
    clear l12
    refine (mval_any (O - pd) _).mono ?_
    rintro e w8 ⟨rfl, hb⟩
    replace k0 := k0.later hb
    replace kz := kz.later hb
    replace kv := kv.later hb
    replace k1 := k1.later hb
    replace kp := kp.later hb
    have cw8 := bl2 hb cw7
    have d8 := bl2 hb d7
    clear hb cw7 d7
    by_cases hg1' : gd (O - pd)
    ·rw [decide_eq_true hg1']
     have q := k1.c2
     go_wp2_with fail
     clear q
     refine (mval_any (l.pp - PF + pd) _).mono ?_
     rintro e w9 ⟨rfl, hb⟩
     replace k0 := k0.later hb
     replace kz := kz.later hb
     replace kv := kv.later hb
     replace k1 := k1.later hb
     replace kp := kp.later hb
     have cw9 := bl2 hb cw8
     have d9 := bl2 hb d8
     clear hb cw8 d8
     by_cases hg2 : gd (l.pp - PF + pd)
     ·rw [decide_eq_true hg2]
      have q := k1.c3
      go_wp2_with fail
      clear q
      refine (mval_any (l.pi - IF) _).mono ?_
      rintro e w10 ⟨rfl, hb⟩
      replace k0 := k0.later hb
      replace kz := kz.later hb
      replace kv := kv.later hb
      replace k1 := k1.later hb
      replace kp := kp.later hb
      have cw10 := bl2 hb cw9
      have d10 := bl2 hb d9
      clear hb cw9 d9
      by_cases hg3 : gd (l.pi - IF)
      ·rw [decide_eq_true hg3]
       have H3 := Lib.hid (show gd (rst l a) ∧ gd (one2 l a day).pr ∧ gd (one2 l a day).it by rw [HO2.out, HRS.out]; exact ⟨hg1', hg2, hg3⟩)
       clear hg1' hg2 hg3
       have hxb : (0 ≤ (nx l day).pr ∧ (nx l day).pr ≤ 1000000000000) ∧ (0 ≤ (nx l day).it ∧ (nx l day).it ≤ 1000000000000) := ⟨⟨HVW.out.y0, HVW.out.y1⟩, ⟨HVW.out.x0, HVW.out.x1⟩⟩
       have HLV := Lib.hid (fun W (hW : Stp W) => level_any l day (O - pd) (snd l day).length keep 0 (nx l day) rfl W hW hxb)
       rw [← HRS.out] at HLV
       have HBD := Lib.hid (fun h => lv_bd (l := l) (day := day) (keep := keep) (rest := rst l a) (n := (snd l day).length) h hxb)
       have HNX := Lib.hid (next_any l da ca dk ck da a2 dk k2 day w10.drew (HD2.out _ d10.drew))
       clear hxb
       obtain ⟨R, hR⟩ : ∃ R, R = rst l a := ⟨_, rfl⟩
       rw [← hR] at HLV HBD
       have HR := Lib.hid hR
       have hRO : R = O - pd := hR.trans HRS.out
       rw [← hRO] at kp
       clear hR hRO
       obtain ⟨LV, hLV⟩ : ∃ x, x = lvV l day keep R (snd l day).length := ⟨_, rfl⟩
       obtain ⟨LE, hLE⟩ : ∃ x, x = lvE l keep R (snd l day).length := ⟨_, rfl⟩
       rw [← hLV, ← hLE] at HLV
       rw [← hLV, ← hLE] at HBD
       have HLVV := Lib.hid hLV
       have HLEE := Lib.hid hLE
       clear hLV hLE
       generalize nx l day = d at *
       have hgpw : w.heap.size + 2 < gp := by omega
       have KT := Lib.hid (show ∀ W W' : World, ((Bk.Blk W w.heap.size #[.int .i64 (l).id, .int .i64 (l).ac, .int .i64 (l).st, .int .i64 (l).pp, .int .i64 (l).pi, .int .i64 (l).fee, .int .i64 (l).pen, .int .i64 (l).chg, .int .i64 (l).prov, .int .i64 (l).loss, .int .i64 (l).rcv, .int .i64 ((l).tm).me, .int .i64 ((l).tm).pr, .int .i64 ((l).tm).ppm, .int .i64 ((l).tm).stt, .int .i64 ((l).tm).ev, .int .i64 ((l).tm).ct, .int .i64 ((l).tm).ba, .int .i64 ((l).tm).mo, .int .i64 ((l).tm).pen, .int .i64 ((l).tm).fe, .string ((l).tm).cal, .string ((l).tm).cur, .slice da (l).ds.length dk, .slice ca (l).cs.length ck] 27 ∧ Bk.Blk W (w.heap.size + 2) #[.int .i64 0, .int .i64 0, .int .i64 0, .int .i64 0, .int .i64 0, .int .i64 0, .int .i64 0, .int .i64 0, .int .i64 0, .int .i64 0, .int .i64 0, .int .i64 0, .int .i64 0, .int .i64 0, .int .i64 0, .int .i64 0, .int .i64 0, .int .i64 0, .int .i64 0, .int .i64 0, .int .i64 0, .string { data := #[] }, .string { data := #[] }, .slice none 0 0, .slice none 0 0] 27) ∧ (Bk.Blk W gp #[.int .i64 (l.tm).me, .int .i64 (l.tm).pr, .int .i64 (l.tm).ppm, .int .i64 (l.tm).stt, .int .i64 (l.tm).ev, .int .i64 (l.tm).ct, .int .i64 (l.tm).ba, .int .i64 (l.tm).mo, .int .i64 (l.tm).pen, .int .i64 (l.tm).fe, .string (l.tm).cal, .string (l.tm).cur, .int .i64 R, .int .i64 ((snd l day).length : Int), .int .i64 0, .int .i64 keep] 80 ∧ Bk.Blk W g1_ #[.int .i64 (((fst l day).length : Int) + 1), .int .i64 day, .int .i64 (l.pp - PF + pd), .int .i64 (l.pi - IF)] 53) ∧ Below w3.heap.size w3 W) → Below W.heap.size W W' → ((Bk.Blk W' w.heap.size #[.int .i64 (l).id, .int .i64 (l).ac, .int .i64 (l).st, .int .i64 (l).pp, .int .i64 (l).pi, .int .i64 (l).fee, .int .i64 (l).pen, .int .i64 (l).chg, .int .i64 (l).prov, .int .i64 (l).loss, .int .i64 (l).rcv, .int .i64 ((l).tm).me, .int .i64 ((l).tm).pr, .int .i64 ((l).tm).ppm, .int .i64 ((l).tm).stt, .int .i64 ((l).tm).ev, .int .i64 ((l).tm).ct, .int .i64 ((l).tm).ba, .int .i64 ((l).tm).mo, .int .i64 ((l).tm).pen, .int .i64 ((l).tm).fe, .string ((l).tm).cal, .string ((l).tm).cur, .slice da (l).ds.length dk, .slice ca (l).cs.length ck] 27 ∧ Bk.Blk W' (w.heap.size + 2) #[.int .i64 0, .int .i64 0, .int .i64 0, .int .i64 0, .int .i64 0, .int .i64 0, .int .i64 0, .int .i64 0, .int .i64 0, .int .i64 0, .int .i64 0, .int .i64 0, .int .i64 0, .int .i64 0, .int .i64 0, .int .i64 0, .int .i64 0, .int .i64 0, .int .i64 0, .int .i64 0, .int .i64 0, .string { data := #[] }, .string { data := #[] }, .slice none 0 0, .slice none 0 0] 27) ∧ (Bk.Blk W' gp #[.int .i64 (l.tm).me, .int .i64 (l.tm).pr, .int .i64 (l.tm).ppm, .int .i64 (l.tm).stt, .int .i64 (l.tm).ev, .int .i64 (l.tm).ct, .int .i64 (l.tm).ba, .int .i64 (l.tm).mo, .int .i64 (l.tm).pen, .int .i64 (l.tm).fe, .string (l.tm).cal, .string (l.tm).cur, .int .i64 R, .int .i64 ((snd l day).length : Int), .int .i64 0, .int .i64 keep] 80 ∧ Bk.Blk W' g1_ #[.int .i64 (((fst l day).length : Int) + 1), .int .i64 day, .int .i64 (l.pp - PF + pd), .int .i64 (l.pi - IF)] 53) ∧ Below w3.heap.size w3 W') from fun W W' h hb => ⟨⟨h.1.1.later hb, h.1.2.later hb⟩, ⟨h.2.1.1.later hb, h.2.1.2.later hb⟩, bl2 hb h.2.2⟩)
       have PUT14 := Lib.hid (show ∀ W : World, ((Bk.Blk W w.heap.size #[.int .i64 (l).id, .int .i64 (l).ac, .int .i64 (l).st, .int .i64 (l).pp, .int .i64 (l).pi, .int .i64 (l).fee, .int .i64 (l).pen, .int .i64 (l).chg, .int .i64 (l).prov, .int .i64 (l).loss, .int .i64 (l).rcv, .int .i64 ((l).tm).me, .int .i64 ((l).tm).pr, .int .i64 ((l).tm).ppm, .int .i64 ((l).tm).stt, .int .i64 ((l).tm).ev, .int .i64 ((l).tm).ct, .int .i64 ((l).tm).ba, .int .i64 ((l).tm).mo, .int .i64 ((l).tm).pen, .int .i64 ((l).tm).fe, .string ((l).tm).cal, .string ((l).tm).cur, .slice da (l).ds.length dk, .slice ca (l).cs.length ck] 27 ∧ Bk.Blk W (w.heap.size + 2) #[.int .i64 0, .int .i64 0, .int .i64 0, .int .i64 0, .int .i64 0, .int .i64 0, .int .i64 0, .int .i64 0, .int .i64 0, .int .i64 0, .int .i64 0, .int .i64 0, .int .i64 0, .int .i64 0, .int .i64 0, .int .i64 0, .int .i64 0, .int .i64 0, .int .i64 0, .int .i64 0, .int .i64 0, .string { data := #[] }, .string { data := #[] }, .slice none 0 0, .slice none 0 0] 27) ∧ (Bk.Blk W gp #[.int .i64 (l.tm).me, .int .i64 (l.tm).pr, .int .i64 (l.tm).ppm, .int .i64 (l.tm).stt, .int .i64 (l.tm).ev, .int .i64 (l.tm).ct, .int .i64 (l.tm).ba, .int .i64 (l.tm).mo, .int .i64 (l.tm).pen, .int .i64 (l.tm).fe, .string (l.tm).cal, .string (l.tm).cur, .int .i64 R, .int .i64 ((snd l day).length : Int), .int .i64 0, .int .i64 keep] 80 ∧ Bk.Blk W g1_ #[.int .i64 (((fst l day).length : Int) + 1), .int .i64 day, .int .i64 (l.pp - PF + pd), .int .i64 (l.pi - IF)] 53) ∧ Below w3.heap.size w3 W) → Below w.heap.size w W → ((Bk.Blk (W.setCell ⟨gp, 14, none⟩ (.int .i64 LV)) w.heap.size #[.int .i64 (l).id, .int .i64 (l).ac, .int .i64 (l).st, .int .i64 (l).pp, .int .i64 (l).pi, .int .i64 (l).fee, .int .i64 (l).pen, .int .i64 (l).chg, .int .i64 (l).prov, .int .i64 (l).loss, .int .i64 (l).rcv, .int .i64 ((l).tm).me, .int .i64 ((l).tm).pr, .int .i64 ((l).tm).ppm, .int .i64 ((l).tm).stt, .int .i64 ((l).tm).ev, .int .i64 ((l).tm).ct, .int .i64 ((l).tm).ba, .int .i64 ((l).tm).mo, .int .i64 ((l).tm).pen, .int .i64 ((l).tm).fe, .string ((l).tm).cal, .string ((l).tm).cur, .slice da (l).ds.length dk, .slice ca (l).cs.length ck] 27 ∧ Bk.Blk (W.setCell ⟨gp, 14, none⟩ (.int .i64 LV)) (w.heap.size + 2) #[.int .i64 0, .int .i64 0, .int .i64 0, .int .i64 0, .int .i64 0, .int .i64 0, .int .i64 0, .int .i64 0, .int .i64 0, .int .i64 0, .int .i64 0, .int .i64 0, .int .i64 0, .int .i64 0, .int .i64 0, .int .i64 0, .int .i64 0, .int .i64 0, .int .i64 0, .int .i64 0, .int .i64 0, .string { data := #[] }, .string { data := #[] }, .slice none 0 0, .slice none 0 0] 27) ∧ (Bk.Blk (W.setCell ⟨gp, 14, none⟩ (.int .i64 LV)) gp #[.int .i64 (l.tm).me, .int .i64 (l.tm).pr, .int .i64 (l.tm).ppm, .int .i64 (l.tm).stt, .int .i64 (l.tm).ev, .int .i64 (l.tm).ct, .int .i64 (l.tm).ba, .int .i64 (l.tm).mo, .int .i64 (l.tm).pen, .int .i64 (l.tm).fe, .string (l.tm).cal, .string (l.tm).cur, .int .i64 R, .int .i64 ((snd l day).length : Int), .int .i64 LV, .int .i64 keep] 80 ∧ Bk.Blk (W.setCell ⟨gp, 14, none⟩ (.int .i64 LV)) g1_ #[.int .i64 (((fst l day).length : Int) + 1), .int .i64 day, .int .i64 (l.pp - PF + pd), .int .i64 (l.pi - IF)] 53) ∧ Below w3.heap.size w3 (W.setCell ⟨gp, 14, none⟩ (.int .i64 LV))) ∧ Below w.heap.size w (W.setCell ⟨gp, 14, none⟩ (.int .i64 LV)) from fun W h hb => ⟨⟨⟨h.1.1.set_ne (by omega), h.1.2.set_ne (by omega)⟩, ⟨(h.2.1.1.set_same (i := 14) (u := .int .i64 LV)).conv rfl, h.2.1.2.set_ne (by omega)⟩, h.2.2.setCell (show w3.heap.size ≤ gp by omega) _⟩, hb.setCell (show w.heap.size ≤ gp by omega) _⟩)
       have hS0 : SQ w gv #[.int .i64 (l).id, .int .i64 (l).ac, .int .i64 (l).st, .int .i64 (l).pp, .int .i64 (l).pi, .int .i64 (l).fee, .int .i64 (l).pen, .int .i64 (l).chg, .int .i64 (l).prov, .int .i64 (l).loss, .int .i64 (l).rcv, .int .i64 ((l).tm).me, .int .i64 ((l).tm).pr, .int .i64 ((l).tm).ppm, .int .i64 ((l).tm).stt, .int .i64 ((l).tm).ev, .int .i64 ((l).tm).ct, .int .i64 ((l).tm).ba, .int .i64 ((l).tm).mo, .int .i64 ((l).tm).pen, .int .i64 ((l).tm).fe, .string ((l).tm).cal, .string ((l).tm).cur, .slice da (l).ds.length dk, .slice ca (l).cs.length ck, .slice da (fst l day).length dk, .slice a2 (snd l day).length k2] 56 w10.drew := ⟨Bk.Blk.drew kv, cw10.drew⟩
       have kt0 : (Bk.Blk w10.drew w.heap.size #[.int .i64 (l).id, .int .i64 (l).ac, .int .i64 (l).st, .int .i64 (l).pp, .int .i64 (l).pi, .int .i64 (l).fee, .int .i64 (l).pen, .int .i64 (l).chg, .int .i64 (l).prov, .int .i64 (l).loss, .int .i64 (l).rcv, .int .i64 ((l).tm).me, .int .i64 ((l).tm).pr, .int .i64 ((l).tm).ppm, .int .i64 ((l).tm).stt, .int .i64 ((l).tm).ev, .int .i64 ((l).tm).ct, .int .i64 ((l).tm).ba, .int .i64 ((l).tm).mo, .int .i64 ((l).tm).pen, .int .i64 ((l).tm).fe, .string ((l).tm).cal, .string ((l).tm).cur, .slice da (l).ds.length dk, .slice ca (l).cs.length ck] 27 ∧ Bk.Blk w10.drew (w.heap.size + 2) #[.int .i64 0, .int .i64 0, .int .i64 0, .int .i64 0, .int .i64 0, .int .i64 0, .int .i64 0, .int .i64 0, .int .i64 0, .int .i64 0, .int .i64 0, .int .i64 0, .int .i64 0, .int .i64 0, .int .i64 0, .int .i64 0, .int .i64 0, .int .i64 0, .int .i64 0, .int .i64 0, .int .i64 0, .string { data := #[] }, .string { data := #[] }, .slice none 0 0, .slice none 0 0] 27) ∧ (Bk.Blk w10.drew gp #[.int .i64 (l.tm).me, .int .i64 (l.tm).pr, .int .i64 (l.tm).ppm, .int .i64 (l.tm).stt, .int .i64 (l.tm).ev, .int .i64 (l.tm).ct, .int .i64 (l.tm).ba, .int .i64 (l.tm).mo, .int .i64 (l.tm).pen, .int .i64 (l.tm).fe, .string (l.tm).cal, .string (l.tm).cur, .int .i64 R, .int .i64 ((snd l day).length : Int), .int .i64 0, .int .i64 keep] 80 ∧ Bk.Blk w10.drew g1_ #[.int .i64 (((fst l day).length : Int) + 1), .int .i64 day, .int .i64 (l.pp - PF + pd), .int .i64 (l.pi - IF)] 53) ∧ Below w3.heap.size w3 w10.drew := ⟨⟨Bk.Blk.drew k0, Bk.Blk.drew kz⟩, ⟨Bk.Blk.drew kp, Bk.Blk.drew k1⟩, Below.drew d10⟩
       clear k0 kz kp k1 kv d10 cw10
       go_upto_region 12 with fail
       apply key1_of' (fun (W : World) => Bk.Blk W gv #[.int .i64 (l).id, .int .i64 (l).ac, .int .i64 (l).st, .int .i64 (l).pp, .int .i64 (l).pi, .int .i64 (l).fee, .int .i64 (l).pen, .int .i64 (l).chg, .int .i64 (l).prov, .int .i64 (l).loss, .int .i64 (l).rcv, .int .i64 ((l).tm).me, .int .i64 ((l).tm).pr, .int .i64 ((l).tm).ppm, .int .i64 ((l).tm).stt, .int .i64 ((l).tm).ev, .int .i64 ((l).tm).ct, .int .i64 ((l).tm).ba, .int .i64 ((l).tm).mo, .int .i64 ((l).tm).pen, .int .i64 ((l).tm).fe, .string ((l).tm).cal, .string ((l).tm).cur, .slice da (l).ds.length dk, .slice ca (l).cs.length ck, .slice da (fst l day).length dk, .slice a2 (snd l day).length k2] 56 ∧ ((Bk.Blk W w.heap.size #[.int .i64 (l).id, .int .i64 (l).ac, .int .i64 (l).st, .int .i64 (l).pp, .int .i64 (l).pi, .int .i64 (l).fee, .int .i64 (l).pen, .int .i64 (l).chg, .int .i64 (l).prov, .int .i64 (l).loss, .int .i64 (l).rcv, .int .i64 ((l).tm).me, .int .i64 ((l).tm).pr, .int .i64 ((l).tm).ppm, .int .i64 ((l).tm).stt, .int .i64 ((l).tm).ev, .int .i64 ((l).tm).ct, .int .i64 ((l).tm).ba, .int .i64 ((l).tm).mo, .int .i64 ((l).tm).pen, .int .i64 ((l).tm).fe, .string ((l).tm).cal, .string ((l).tm).cur, .slice da (l).ds.length dk, .slice ca (l).cs.length ck] 27 ∧ Bk.Blk W (w.heap.size + 2) #[.int .i64 0, .int .i64 0, .int .i64 0, .int .i64 0, .int .i64 0, .int .i64 0, .int .i64 0, .int .i64 0, .int .i64 0, .int .i64 0, .int .i64 0, .int .i64 0, .int .i64 0, .int .i64 0, .int .i64 0, .int .i64 0, .int .i64 0, .int .i64 0, .int .i64 0, .int .i64 0, .int .i64 0, .string { data := #[] }, .string { data := #[] }, .slice none 0 0, .slice none 0 0] 27) ∧ (Bk.Blk W gp #[.int .i64 (l.tm).me, .int .i64 (l.tm).pr, .int .i64 (l.tm).ppm, .int .i64 (l.tm).stt, .int .i64 (l.tm).ev, .int .i64 (l.tm).ct, .int .i64 (l.tm).ba, .int .i64 (l.tm).mo, .int .i64 (l.tm).pen, .int .i64 (l.tm).fe, .string (l.tm).cal, .string (l.tm).cur, .int .i64 R, .int .i64 ((snd l day).length : Int), .int .i64 LV, .int .i64 keep] 80 ∧ Bk.Blk W g1_ #[.int .i64 (((fst l day).length : Int) + 1), .int .i64 day, .int .i64 (l.pp - PF + pd), .int .i64 (l.pi - IF)] 53) ∧ Below w3.heap.size w3 W) ∧ Below w.heap.size w W)
       ·intro KEY
        refine wp_region_held_drew (S := SQ w gv #[.int .i64 (l).id, .int .i64 (l).ac, .int .i64 (l).st, .int .i64 (l).pp, .int .i64 (l).pi, .int .i64 (l).fee, .int .i64 (l).pen, .int .i64 (l).chg, .int .i64 (l).prov, .int .i64 (l).loss, .int .i64 (l).rcv, .int .i64 ((l).tm).me, .int .i64 ((l).tm).pr, .int .i64 ((l).tm).ppm, .int .i64 ((l).tm).stt, .int .i64 ((l).tm).ev, .int .i64 ((l).tm).ct, .int .i64 ((l).tm).ba, .int .i64 ((l).tm).mo, .int .i64 ((l).tm).pen, .int .i64 ((l).tm).fe, .string ((l).tm).cal, .string ((l).tm).cur, .slice da (l).ds.length dk, .slice ca (l).cs.length ck, .slice da (fst l day).length dk, .slice a2 (snd l day).length k2] 56) (by kernel_rfl) hS0 (fun hS => ?_)
        have kt := kt0
        refine take_at 1 (by decide) (by kernel_rfl) (by kernel_rfl) (by kernel_rfl) (fun _ _ _ h => h) hS (yields_load_row (by rfl) 56 (.tmp 13) rfl gv rfl _ _ _ _ (fun W hW => hW.1) Tryz.underlying56 rfl (by kernel_rfl)) ?_
        simp only [z0, z1, Act.put, z3, z4, z5]
        refine two_at 0 2 (by decide) (by decide) (by kernel_rfl) (by rfl) (by rfl) (fun K hK => ?_) (fun K hK => ?_)
        ·refine load_wp 80 (.tmp 19) rfl gp rfl _ _ _ _ kt.2.1.1 Tryz.underlying80 rfl (by kernel_rfl) ?_
         refine hK.out _ _ hS (fun hT' => ?_)
         clear hT' hK
         simp only [z0, z1, Act.put, z3, z4, z5]
         refine one_at 2 (by decide) (by kernel_rfl) (by rfl) (fun K hK => ?_)
         refine call_wp (by simp only [z0, z1]; go_simp; first | done | rfl | exact ⟨rfl, rfl⟩) ((HNX.out).mono ?_)
         rintro e wk ⟨rfl, hb⟩
         have hT := SQ.mono _ _ hS hb
         have kt2 := KT.out _ _ kt hb
         refine ⟨_, rfl, hK.out _ _ hT (fun hT' => ?_)⟩
         clear hT' hS hK hb kt
         have hS := hT
         have kt := kt2
         clear hT kt2
         simp only [z0, z1, Act.put, z3, z4, z5]
         refine one_at 3 (by decide) (by kernel_rfl) (by rfl) (fun K hK => ?_)
         refine call_wp (by simp only [z0, z1]; go_simp; first | done | rfl | exact ⟨rfl, rfl⟩) (((HLV.out _ (HST.out _ hS.2))).mono ?_)
         rintro e wl ⟨rfl, hb⟩
         have hT := SQ.mono _ _ hS hb
         have kt2 := KT.out _ _ kt hb
         refine ⟨_, rfl, hK.out _ _ hT (fun hT' => ?_)⟩
         clear hT' hS hK hb kt
         have hS := hT
         have kt := kt2
         clear hT kt2
         simp only [z0, z1, Act.put, z3, z4, z5]
         refine tk 4 (by decide) ?_ hS (by kernel_rfl) (by kernel_rfl) (by kernel_rfl) (by rfl) (fun _ _ _ h => h) ?_ ?_
         rotate_left
         ·intro W hW
          clear hW
          simp only [z0, z1]
          go_simp
          first | done | with_reducible rfl
         simp only [z0, z1, Act.put, z3, z4, z5]
         refine tk 5 (by decide) ?_ hS (by kernel_rfl) (by kernel_rfl) (by kernel_rfl) (by rfl) (fun _ _ _ h => h) ?_ ?_
         rotate_left
         ·intro W hW
          clear hW
          simp only [z0, z1]
          go_simp
          first | done | with_reducible rfl
         simp only [z0, z1, Act.put, z3, z4, z5]
         refine tk 6 (by decide) ?_ hS (by kernel_rfl) (by kernel_rfl) (by kernel_rfl) (by rfl) (fun _ _ _ h => h) ?_ ?_
         rotate_left
         ·intro W hW
          clear hW
          simp only [z0, z1]
          go_simp
          first | done | with_reducible rfl
         simp only [z0, z1, Act.put, z3, z4, z5]
         refine tk 7 (by decide) ?_ hS (by kernel_rfl) (by kernel_rfl) (by kernel_rfl) (by rfl) (fun _ _ _ h => h) ?_ ?_
         rotate_left
         ·intro W hW
          clear hW
          simp only [z0, z1]
          go_simp
          first | done | with_reducible rfl
         simp only [z0, z1, Act.put, z3, z4, z5]
         refine one_at 8 (by decide) (by kernel_rfl) (by rfl) (fun K hK => ?_)
         have q1 := kt.2.1.1.c14
         have q2 := kt.2.1.1.f14
         refine skip_wp (w' := (wl.setCell ⟨gp, 14, none⟩ (.int .i64 LV))) (by simp only [z0, z1]; go_simp; first | done | rfl | exact ⟨rfl, rfl⟩) ?_
         clear q1 q2
         have kx := PUT14.out _ kt hS.2
         have hT : SQ w gv #[.int .i64 (l).id, .int .i64 (l).ac, .int .i64 (l).st, .int .i64 (l).pp, .int .i64 (l).pi, .int .i64 (l).fee, .int .i64 (l).pen, .int .i64 (l).chg, .int .i64 (l).prov, .int .i64 (l).loss, .int .i64 (l).rcv, .int .i64 ((l).tm).me, .int .i64 ((l).tm).pr, .int .i64 ((l).tm).ppm, .int .i64 ((l).tm).stt, .int .i64 ((l).tm).ev, .int .i64 ((l).tm).ct, .int .i64 ((l).tm).ba, .int .i64 ((l).tm).mo, .int .i64 ((l).tm).pen, .int .i64 ((l).tm).fe, .string ((l).tm).cal, .string ((l).tm).cur, .slice da (l).ds.length dk, .slice ca (l).cs.length ck, .slice da (fst l day).length dk, .slice a2 (snd l day).length k2] 56 (wl.setCell ⟨gp, 14, none⟩ (.int .i64 LV)) := ⟨hS.1.set_ne (by omega), kx.2⟩
         refine hK.out _ _ hT (fun hT' => ?_)
         clear hT' hK kt hS
         have hS := hT
         clear hT
         simp only [z0, z1, Act.put, z3, z4, z5]
         generalize (wl.setCell ⟨gp, 14, none⟩ (.int .i64 LV)) = wm at *
         refine tk 9 (by decide) ?_ hS (by kernel_rfl) (by kernel_rfl) (by kernel_rfl) (by rfl) (fun _ _ _ h => h) ?_ ?_
         rotate_left
         ·intro W hW
          clear hW
          simp only [z0, z1]
          go_simp
          first | done | with_reducible rfl
         simp only [z0, z1, Act.put, z3, z4, z5]
         refine wpAnyH_done (by kernel_rfl) ?_ _
         exact KEY wm ⟨hS.1, kx⟩
        ·refine call_wp (by simp only [z0, z1]; go_simp; first | done | rfl | exact ⟨rfl, rfl⟩) ((HNX.out).mono ?_)
         rintro e wk ⟨rfl, hb⟩
         have hT := SQ.mono _ _ hS hb
         have kt2 := KT.out _ _ kt hb
         refine ⟨_, rfl, hK.out _ _ hT (fun hT' => ?_)⟩
         clear hT' hS hK hb kt
         have hS := hT
         have kt := kt2
         clear hT kt2
         simp only [z0, z1, Act.put, z3, z4, z5]
         refine one_at 0 (by decide) (by kernel_rfl) (by rfl) (fun K hK => ?_)
         refine load_wp 80 (.tmp 19) rfl gp rfl _ _ _ _ kt.2.1.1 Tryz.underlying80 rfl (by kernel_rfl) ?_
         refine hK.out _ _ hS (fun hT' => ?_)
         clear hT' hK
         simp only [z0, z1, Act.put, z3, z4, z5]
         refine one_at 3 (by decide) (by kernel_rfl) (by rfl) (fun K hK => ?_)
         refine call_wp (by simp only [z0, z1]; go_simp; first | done | rfl | exact ⟨rfl, rfl⟩) (((HLV.out _ (HST.out _ hS.2))).mono ?_)
         rintro e wl ⟨rfl, hb⟩
         have hT := SQ.mono _ _ hS hb
         have kt2 := KT.out _ _ kt hb
         refine ⟨_, rfl, hK.out _ _ hT (fun hT' => ?_)⟩
         clear hT' hS hK hb kt
         have hS := hT
         have kt := kt2
         clear hT kt2
         simp only [z0, z1, Act.put, z3, z4, z5]
         refine tk 4 (by decide) ?_ hS (by kernel_rfl) (by kernel_rfl) (by kernel_rfl) (by rfl) (fun _ _ _ h => h) ?_ ?_
         rotate_left
         ·intro W hW
          clear hW
          simp only [z0, z1]
          go_simp
          first | done | with_reducible rfl
         simp only [z0, z1, Act.put, z3, z4, z5]
         refine tk 5 (by decide) ?_ hS (by kernel_rfl) (by kernel_rfl) (by kernel_rfl) (by rfl) (fun _ _ _ h => h) ?_ ?_
         rotate_left
         ·intro W hW
          clear hW
          simp only [z0, z1]
          go_simp
          first | done | with_reducible rfl
         simp only [z0, z1, Act.put, z3, z4, z5]
         refine tk 6 (by decide) ?_ hS (by kernel_rfl) (by kernel_rfl) (by kernel_rfl) (by rfl) (fun _ _ _ h => h) ?_ ?_
         rotate_left
         ·intro W hW
          clear hW
          simp only [z0, z1]
          go_simp
          first | done | with_reducible rfl
         simp only [z0, z1, Act.put, z3, z4, z5]
         refine tk 7 (by decide) ?_ hS (by kernel_rfl) (by kernel_rfl) (by kernel_rfl) (by rfl) (fun _ _ _ h => h) ?_ ?_
         rotate_left
         ·intro W hW
          clear hW
          simp only [z0, z1]
          go_simp
          first | done | with_reducible rfl
         simp only [z0, z1, Act.put, z3, z4, z5]
         refine one_at 8 (by decide) (by kernel_rfl) (by rfl) (fun K hK => ?_)
         have q1 := kt.2.1.1.c14
         have q2 := kt.2.1.1.f14
         refine skip_wp (w' := (wl.setCell ⟨gp, 14, none⟩ (.int .i64 LV))) (by simp only [z0, z1]; go_simp; first | done | rfl | exact ⟨rfl, rfl⟩) ?_
         clear q1 q2
         have kx := PUT14.out _ kt hS.2
         have hT : SQ w gv #[.int .i64 (l).id, .int .i64 (l).ac, .int .i64 (l).st, .int .i64 (l).pp, .int .i64 (l).pi, .int .i64 (l).fee, .int .i64 (l).pen, .int .i64 (l).chg, .int .i64 (l).prov, .int .i64 (l).loss, .int .i64 (l).rcv, .int .i64 ((l).tm).me, .int .i64 ((l).tm).pr, .int .i64 ((l).tm).ppm, .int .i64 ((l).tm).stt, .int .i64 ((l).tm).ev, .int .i64 ((l).tm).ct, .int .i64 ((l).tm).ba, .int .i64 ((l).tm).mo, .int .i64 ((l).tm).pen, .int .i64 ((l).tm).fe, .string ((l).tm).cal, .string ((l).tm).cur, .slice da (l).ds.length dk, .slice ca (l).cs.length ck, .slice da (fst l day).length dk, .slice a2 (snd l day).length k2] 56 (wl.setCell ⟨gp, 14, none⟩ (.int .i64 LV)) := ⟨hS.1.set_ne (by omega), kx.2⟩
         refine hK.out _ _ hT (fun hT' => ?_)
         clear hT' hK kt hS
         have hS := hT
         clear hT
         simp only [z0, z1, Act.put, z3, z4, z5]
         generalize (wl.setCell ⟨gp, 14, none⟩ (.int .i64 LV)) = wm at *
         refine tk 9 (by decide) ?_ hS (by kernel_rfl) (by kernel_rfl) (by kernel_rfl) (by rfl) (fun _ _ _ h => h) ?_ ?_
         rotate_left
         ·intro W hW
          clear hW
          simp only [z0, z1]
          go_simp
          first | done | with_reducible rfl
         simp only [z0, z1, Act.put, z3, z4, z5]
         refine wpAnyH_done (by kernel_rfl) ?_ _
         exact KEY wm ⟨hS.1, kx⟩
       ·intro wb ⟨kv, ⟨⟨k0, kz⟩, ⟨kp, k1⟩, db⟩, cwb⟩
        clear KT PUT14 kt0 hS0 HNX HLV
        by_cases he4 : LE = 0
        ·have hbd := HBD.out he4
         have H4 := Lib.hid (show lvE l keep (rst l a) (snd l day).length = 0 by rw [← HR.out, ← HLEE.out]; exact he4)
         subst he4
         have HINV := Lib.hid (HAL.out.inv H3.out.1 H4.out (pout_self ..))
         rw [← HR.out, ← HLVV.out] at HINV
         have HTM := Lib.hid (show (0 ≤ l.tm.ppm ∧ l.tm.ppm ≤ 1000000) ∧ (1 ≤ l.tm.ev ∧ l.tm.ev ≤ 12) ∧ (1 ≤ l.tm.mo ∧ l.tm.mo ≤ 6) from ⟨HAL.out.tm.ppm, HAL.out.tm.ev, HAL.out.tm.mo⟩)
         have HPAD := Lib.hid (show (fst l day ++ [(⟨((fst l day).length : Int) + 1, day, l.pp - PF + pd, l.pi - IF⟩ : Du)]) ++ bldK l.tm R (snd l day).length keep LV (snd l day) 0 R (((fst l day ++ [(⟨((fst l day).length : Int) + 1, day, l.pp - PF + pd, l.pi - IF⟩ : Du)]).length : Int) + 1) = paD l a day keep by
          unfold paD bld
          rw [HO2.out, List.length_append, HFL.out, HLVV.out, HR.out]
          rfl)
         have hsn : (snd l day).length ≤ 240 := by have := snd_len l day; omega
         have HSL := Lib.hid hsn
         have HSW := Lib.hid (fun W (hW : Below wb.heap.size wb W) => HST.out W (bl2 hW cwb))
         have HDW := Lib.hid (fun W (hW : Below wb.heap.size wb W) => HD2.out W (bl2 hW db))
         have HDF := Lib.hid (fun W (hW : Below wb.heap.size wb W) => dues_fst (HDA.out W (bl2 hW db)) (atN l day))
         have hS0 : SB wb wb.drew := (Below.refl _ _).drew
         go_upto_region 15 with fail
         apply key8_of (fun (W : World) (a1 : Option Addr) (c1 gx g2 c2 : Nat) (a3 : Option Addr) (c3 : Nat) => SB wb W ∧ DV W wb.heap.size (.slice a3 (paD l a day keep).length c3) (paD l a day keep))
         ·intro KEY
          refine wp_region_held_drew (S := SB wb) (by kernel_rfl) hS0 (fun hS => ?_)
          refine take_at 0 (by decide) (by kernel_rfl) (by kernel_rfl) (by kernel_rfl) (fun _ _ _ h => h) hS (yields_load_row (by rfl) 80 (.tmp 19) rfl gp rfl _ _ _ _ (fun W hW => (kp.later hW)) Tryz.underlying80 rfl (by kernel_rfl)) ?_
          simp only [z0, z1, Act.put, z3, z4, z5]
          refine tk 1 (by decide) ?_ hS (by kernel_rfl) (by kernel_rfl) (by kernel_rfl) (by rfl) (fun _ _ _ h => h) ?_ ?_
          rotate_left
          ·intro W hW
           clear hW
           simp only [z0, z1]
           go_simp
           first | done | with_reducible rfl
          simp only [z0, z1, Act.put, z3, z4, z5]
          refine take_at 4 (by decide) (by kernel_rfl) (by kernel_rfl) (by kernel_rfl) (fun _ _ _ h => h) hS (yields_load_row (by rfl) 53 (.tmp 18) rfl g1_ rfl _ _ _ _ (fun W hW => (k1.later hW)) Tryz.underlying53 rfl (by kernel_rfl)) ?_
          simp only [z0, z1, Act.put, z3, z4, z5]
          refine tk 7 (by decide) ?_ hS (by kernel_rfl) (by kernel_rfl) (by kernel_rfl) (by rfl) (fun _ _ _ h => h) ?_ ?_
          rotate_left
          ·intro W hW
           clear hW
           simp only [z0, z1]
           go_simp
           first | done | with_reducible rfl
          simp only [z0, z1, Act.put, z3, z4, z5]
          refine tk 2 (by decide) ?_ hS (by kernel_rfl) (by kernel_rfl) (by kernel_rfl) (by rfl) (fun _ _ _ h => h) ?_ ?_
          rotate_left
          ·intro W hW
           have q := (kv.later hW).c25
           clear hW
           simp only [z0, z1]
           go_simp
           first | done | with_reducible rfl
          simp only [z0, z1, Act.put, z3, z4, z5]
          refine tk 8 (by decide) ?_ hS (by kernel_rfl) (by kernel_rfl) (by kernel_rfl) (by rfl) (fun _ _ _ h => h) ?_ ?_
          rotate_left
          ·intro W hW
           have q := (kv.later hW).c26
           clear hW
           simp only [z0, z1]
           go_simp
           first | done | with_reducible rfl
          simp only [z0, z1, Act.put, z3, z4, z5]
          refine two_at 3 5 (by decide) (by decide) (by kernel_rfl) (by rfl) (by rfl) (fun K hK => ?_) (fun K hK => ?_)
          ·refine call_wp (by simp only [z0, z1]; go_simp; first | done | rfl | exact ⟨rfl, rfl⟩) ((cloned_gv da dk (fst l day) _ (HDF.out _ hS) (by have := HFL.out; omega)).mono ?_)
           rintro e wx ⟨v, rfl, hv, hb⟩
           have hT := SB.mono _ _ hS hb
           obtain ⟨av, cv, rfl⟩ := hv.len
           replace hv := gv_base hv (Below.size hS)
           refine ⟨_, rfl, hK.out _ _ hT (fun hT' => ?_)⟩
           clear hT' hS hK hb
           have hS := hT
           clear hT
           simp only [z0, z1, Act.put, z3, z4, z5]
           refine one_at 5 (by decide) (by kernel_rfl) (by rfl) (fun K hK => ?_)
           refine value_wp (w' := (wx.alloc (.cells #[.int .i64 (((fst l day).length : Int) + 1), .int .i64 day, .int .i64 (l.pp - PF + pd), .int .i64 (l.pi - IF)] 53))) (by simp only [z0, z1]; go_simp; first | done | rfl | exact ⟨rfl, rfl⟩) ?_
           have hX : Below wx.heap.size wx (wx.alloc (.cells #[.int .i64 (((fst l day).length : Int) + 1), .int .i64 day, .int .i64 (l.pp - PF + pd), .int .i64 (l.pi - IF)] 53)) := (Below.refl _ _).alloc (Nat.le_refl _) _
           have hT := SB.mono _ _ hS hX
           have kx : Bk.Blk (wx.alloc (.cells #[.int .i64 (((fst l day).length : Int) + 1), .int .i64 day, .int .i64 (l.pp - PF + pd), .int .i64 (l.pi - IF)] 53)) wx.heap.size _ 53 := Bk.Blk.nw10
           replace hv := hv.later hX
           refine hK.out _ _ hT (fun hT' => ?_)
           clear hT' hS hK hX
           have hS := hT
           clear hT
           simp only [z0, z1, Act.put, z3, z4, z5]
           generalize (wx.alloc (.cells _ 53)) = wy0 at *
           generalize wx.heap.size = gx at *
           have hzB : wb.heap.size ≤ wy0.heap.size := Below.size hS
           refine one_at 6 (by decide) (by kernel_rfl) (by rfl) (fun K hK => ?_)
           refine due_wp (ops := #[]) (⟨((fst l day).length : Int) + 1, day, l.pp - PF + pd, l.pi - IF⟩ : Du) rfl _ _ rfl rfl hv gx rfl kx (by have := HFL.out; omega) hzB ?_
           intro g2 c2 wy hv2 hgr hlt
           have hT := grown_sb hS hv hgr
           refine hK.out _ _ hT (fun hT' => ?_)
           clear hT' hS hK hgr hv kx hzB
           have hS := hT
           clear hT
           simp only [z0, z1, Act.put, z3, z4, z5]
           have hzB : wb.heap.size ≤ wy.heap.size := Below.size hS
           have hla : (fst l day ++ [(⟨((fst l day).length : Int) + 1, day, l.pp - PF + pd, l.pi - IF⟩ : Du)]).length = (fst l day).length + 1 := List.length_append ..
           refine one_at 9 (by decide) (by kernel_rfl) (by rfl) (fun K hK => ?_)
           refine call_wp (by simp only [z0, z1]; go_simp; first | done | rfl | exact ⟨rfl, rfl⟩) ((build_any l.tm R (snd l day).length keep LV (some ⟨g2, 0, none⟩) c2 (fst l day ++ [(⟨((fst l day).length : Int) + 1, day, l.pp - PF + pd, l.pi - IF⟩ : Du)]) a2 k2 (snd l day) wb.heap.size wy (by rw [hla]; exact hv2) hzB (fun W hW => HDW.out W (Below.trans hS hW)) (fun W hW => HSW.out W (Below.trans hS hW)) HINV.out rfl (by have := HSL.out; omega) hbd HTM.out (by rw [hla]; omega)).mono ?_)
           rintro e wz ⟨v', rfl, hv3, hb⟩
           have hT : SB wb wz := Below.trans hS hb
           rw [HPAD.out] at hv3
           obtain ⟨a3, c3, rfl⟩ := hv3.len
           refine ⟨_, rfl, hK.out _ _ hT (fun hT' => ?_)⟩
           clear hT' hS hK hb hv2 hla hzB
           have hS := hT
           clear hT
           simp only [z0, z1, Act.put, z3, z4, z5]
           refine tk 10 (by decide) ?_ hS (by kernel_rfl) (by kernel_rfl) (by kernel_rfl) (by rfl) (fun _ _ _ h => h) ?_ ?_
           rotate_left
           ·intro W hW
            clear hW
            simp only [z0, z1]
            go_simp
            first | done | with_reducible rfl
           simp only [z0, z1, Act.put, z3, z4, z5]
           refine tk 11 (by decide) ?_ hS (by kernel_rfl) (by kernel_rfl) (by kernel_rfl) (by rfl) (fun _ _ _ h => h) ?_ ?_
           rotate_left
           ·intro W hW
            clear hW
            simp only [z0, z1]
            go_simp
            first | done | with_reducible rfl
           simp only [z0, z1, Act.put, z3, z4, z5]
           refine tk 12 (by decide) ?_ hS (by kernel_rfl) (by kernel_rfl) (by kernel_rfl) (by rfl) (fun _ _ _ h => h) ?_ ?_
           rotate_left
           ·intro W hW
            clear hW
            simp only [z0, z1]
            go_simp
            first | done | with_reducible rfl
           simp only [z0, z1, Act.put, z3, z4, z5]
           refine tk 13 (by decide) ?_ hS (by kernel_rfl) (by kernel_rfl) (by kernel_rfl) (by rfl) (fun _ _ _ h => h) ?_ ?_
           rotate_left
           ·intro W hW
            clear hW
            simp only [z0, z1]
            go_simp
            first | done | with_reducible rfl
           simp only [z0, z1, Act.put, z3, z4, z5]
           refine tk 14 (by decide) ?_ hS (by kernel_rfl) (by kernel_rfl) (by kernel_rfl) (by rfl) (fun _ _ _ h => h) ?_ ?_
           rotate_left
           ·intro W hW
            clear hW
            simp only [z0, z1]
            go_simp
            first | done | with_reducible rfl
           simp only [z0, z1, Act.put, z3, z4, z5]
           refine wpAnyH_done (by kernel_rfl) ?_ _
           exact KEY wz av cv gx g2 c2 a3 c3 ⟨hS, hv3⟩
          ·refine value_wp (w' := ((wb.alloc (.cells #[.int .i64 (((fst l day).length : Int) + 1), .int .i64 day, .int .i64 (l.pp - PF + pd), .int .i64 (l.pi - IF)] 53)).drew)) (by simp only [z0, z1]; go_simp; first | done | rfl | exact ⟨rfl, rfl⟩) ?_
           have hT : SB wb ((wb.alloc (.cells #[.int .i64 (((fst l day).length : Int) + 1), .int .i64 day, .int .i64 (l.pp - PF + pd), .int .i64 (l.pi - IF)] 53)).drew) := ((Below.refl _ _).alloc (Nat.le_refl _) _).drew
           have kx : Bk.Blk ((wb.alloc (.cells #[.int .i64 (((fst l day).length : Int) + 1), .int .i64 day, .int .i64 (l.pp - PF + pd), .int .i64 (l.pi - IF)] 53)).drew) wb.heap.size _ 53 := Bk.Blk.drew Bk.Blk.nw10
           refine hK.out _ _ hT (fun hT' => ?_)
           clear hT' hS hK
           have hS := hT
           clear hT
           simp only [z0, z1, Act.put, z3, z4, z5]
           generalize ((wb.alloc (.cells _ 53)).drew) = wx0 at *
           obtain ⟨gx, hgx⟩ : ∃ g, g = wb.heap.size := ⟨_, rfl⟩
           rw [← hgx] at kx
           rw [← hgx]
           clear hgx
           refine one_at 3 (by decide) (by kernel_rfl) (by rfl) (fun K hK => ?_)
           refine call_wp (by simp only [z0, z1]; go_simp; first | done | rfl | exact ⟨rfl, rfl⟩) ((cloned_gv da dk (fst l day) _ (HDF.out _ hS) (by have := HFL.out; omega)).mono ?_)
           rintro e wx ⟨v, rfl, hv, hb⟩
           have hT := SB.mono _ _ hS hb
           obtain ⟨av, cv, rfl⟩ := hv.len
           replace hv := gv_base hv (Below.size hS)
           replace kx := kx.later hb
           refine ⟨_, rfl, hK.out _ _ hT (fun hT' => ?_)⟩
           clear hT' hS hK hb
           have hS := hT
           clear hT
           simp only [z0, z1, Act.put, z3, z4, z5]
           have hzB : wb.heap.size ≤ wx.heap.size := Below.size hS
           refine one_at 6 (by decide) (by kernel_rfl) (by rfl) (fun K hK => ?_)
           refine due_wp (ops := #[]) (⟨((fst l day).length : Int) + 1, day, l.pp - PF + pd, l.pi - IF⟩ : Du) rfl _ _ rfl rfl hv gx rfl kx (by have := HFL.out; omega) hzB ?_
           intro g2 c2 wy hv2 hgr hlt
           have hT := grown_sb hS hv hgr
           refine hK.out _ _ hT (fun hT' => ?_)
           clear hT' hS hK hgr hv kx hzB
           have hS := hT
           clear hT
           simp only [z0, z1, Act.put, z3, z4, z5]
           have hzB : wb.heap.size ≤ wy.heap.size := Below.size hS
           have hla : (fst l day ++ [(⟨((fst l day).length : Int) + 1, day, l.pp - PF + pd, l.pi - IF⟩ : Du)]).length = (fst l day).length + 1 := List.length_append ..
           refine one_at 9 (by decide) (by kernel_rfl) (by rfl) (fun K hK => ?_)
           refine call_wp (by simp only [z0, z1]; go_simp; first | done | rfl | exact ⟨rfl, rfl⟩) ((build_any l.tm R (snd l day).length keep LV (some ⟨g2, 0, none⟩) c2 (fst l day ++ [(⟨((fst l day).length : Int) + 1, day, l.pp - PF + pd, l.pi - IF⟩ : Du)]) a2 k2 (snd l day) wb.heap.size wy (by rw [hla]; exact hv2) hzB (fun W hW => HDW.out W (Below.trans hS hW)) (fun W hW => HSW.out W (Below.trans hS hW)) HINV.out rfl (by have := HSL.out; omega) hbd HTM.out (by rw [hla]; omega)).mono ?_)
           rintro e wz ⟨v', rfl, hv3, hb⟩
           have hT : SB wb wz := Below.trans hS hb
           rw [HPAD.out] at hv3
           obtain ⟨a3, c3, rfl⟩ := hv3.len
           refine ⟨_, rfl, hK.out _ _ hT (fun hT' => ?_)⟩
           clear hT' hS hK hb hv2 hla hzB
           have hS := hT
           clear hT
           simp only [z0, z1, Act.put, z3, z4, z5]
           refine tk 10 (by decide) ?_ hS (by kernel_rfl) (by kernel_rfl) (by kernel_rfl) (by rfl) (fun _ _ _ h => h) ?_ ?_
           rotate_left
           ·intro W hW
            clear hW
            simp only [z0, z1]
            go_simp
            first | done | with_reducible rfl
           simp only [z0, z1, Act.put, z3, z4, z5]
           refine tk 11 (by decide) ?_ hS (by kernel_rfl) (by kernel_rfl) (by kernel_rfl) (by rfl) (fun _ _ _ h => h) ?_ ?_
           rotate_left
           ·intro W hW
            clear hW
            simp only [z0, z1]
            go_simp
            first | done | with_reducible rfl
           simp only [z0, z1, Act.put, z3, z4, z5]
           refine tk 12 (by decide) ?_ hS (by kernel_rfl) (by kernel_rfl) (by kernel_rfl) (by rfl) (fun _ _ _ h => h) ?_ ?_
           rotate_left
           ·intro W hW
            clear hW
            simp only [z0, z1]
            go_simp
            first | done | with_reducible rfl
           simp only [z0, z1, Act.put, z3, z4, z5]
           refine tk 13 (by decide) ?_ hS (by kernel_rfl) (by kernel_rfl) (by kernel_rfl) (by rfl) (fun _ _ _ h => h) ?_ ?_
           rotate_left
           ·intro W hW
            clear hW
            simp only [z0, z1]
            go_simp
            first | done | with_reducible rfl
           simp only [z0, z1, Act.put, z3, z4, z5]
           refine tk 14 (by decide) ?_ hS (by kernel_rfl) (by kernel_rfl) (by kernel_rfl) (by rfl) (fun _ _ _ h => h) ?_ ?_
           rotate_left
           ·intro W hW
            clear hW
            simp only [z0, z1]
            go_simp
            first | done | with_reducible rfl
           simp only [z0, z1, Act.put, z3, z4, z5]
           refine wpAnyH_done (by kernel_rfl) ?_ _
           exact KEY wz av cv gx g2 c2 a3 c3 ⟨hS, hv3⟩
         ·intro wd a1_ c1_ gx_ g2_ c2_ a3 c3 ⟨hSd, hv⟩
          have cwd := bl2 hSd cwb
          replace k0 := k0.later hSd
          replace kz := kz.later hSd
          have hwb := kv.lt
          clear hSd cwb kv k1 kp db HINV HPAD HDW HDF HSW hbd HTM HSL hsn hS0 HBD
          obtain ⟨ds, hds⟩ : ∃ d, d = paD l a day keep := ⟨_, rfl⟩
          rw [← hds] at hv
          rw [← hds]
          have HDS := Lib.hid hds
          clear hds
          obtain ⟨a7, c7, hve, hr7, hf7⟩ := hv.row
          obtain ⟨e1, e2⟩ : a3 = a7 ∧ c3 = c7 := by simpa using hve
          obtain rfl := e1.symm
          obtain rfl := e2.symm
          clear hve hv
          by_cases h24 : 240 < ds.length
          ·have gn : (240 : Int) < (ds.length : Int) := by omega
           have HF := Lib.hid (show paE l a day keep c = 5 from paE_5 HOP.out HE.out H3.out H4.out (by rw [← HDS.out]; exact h24))
           clear h24
           go_wp2_with (refine wpList_store_row rfl 27 _ _ rfl _ _ rfl rfl _ _ kz (by kernel_rfl) rfl (by simp [Value.oneCell', denc]) ?_)
           (try simp only [Exit.inBlock, Exit.then])
           refine bodyPost_ret (results3_cell' Tryz.results17 _ _ _ _ _ _ _ rfl (Blk_setRow_same kz) Tryz.underlying27 rfl (by kernel_rfl)) rfl ?_
           exact pao_no HF.out (by decide) (Below_setRow cwd (by omega) _)
          ·have HF := Lib.hid (show paE l a day keep c = 0 from paE_0 HOP.out HE.out H3.out H4.out (by rw [← HDS.out]; exact h24))
           have gn : ¬ (240 : Int) < (ds.length : Int) := by omega
           have hn7 : ds.length ≤ 1000 := by omega
           have x24 := k0.c24
           clear h24
           go_wp2_with fail
           clear x24 gn
           refine (clonec_row ca ck l.cs _ (HC.out _ cwd) hcn).mono ?_
           rintro e v1_ ⟨a8, c8, rfl, hr8, hf8, hb⟩
           have cv1_ := bl2 hb cwd
           have hr7 := hr7.later hb
           have hwz := kz.lt
           have kb := k0.later hb
           have kzz := kz.later hb
           have hf8' : ∀ ad, a8 = some ad → w.heap.size + 2 < ad.block := fun ad had => by have := hf8 ad had; have := hwz; omega
           have hf7' : ∀ ad, a7 = some ad → w.heap.size + 2 < ad.block := fun ad had => by have := hf7 ad had; omega
           clear kz hwz
           have kz := kzz
           clear kzz
           clear hb hf8 hf7 k0 cwd
           have x23 := kb.c23
           have y23 := kb.f23
           have x24 := kb.c24
           have y24 := kb.f24
           go_upto_region 21 with fail
           clear x23 y23 x24 y24
           have kb2 : Bk.Blk ((v1_.setCell ⟨w.heap.size, 23, none⟩ (.slice a7 (ds).length c7)).setCell ⟨w.heap.size, 24, none⟩ (.slice a8 l.cs.length c8)) w.heap.size #[.int .i64 l.id, .int .i64 l.ac, .int .i64 l.st, .int .i64 l.pp, .int .i64 l.pi, .int .i64 l.fee, .int .i64 l.pen, .int .i64 l.chg, .int .i64 l.prov, .int .i64 l.loss, .int .i64 l.rcv, .int .i64 l.tm.me, .int .i64 l.tm.pr, .int .i64 l.tm.ppm, .int .i64 l.tm.stt, .int .i64 l.tm.ev, .int .i64 l.tm.ct, .int .i64 l.tm.ba, .int .i64 l.tm.mo, .int .i64 l.tm.pen, .int .i64 l.tm.fe, .string l.tm.cal, .string l.tm.cur, .slice a7 (ds).length c7, .slice a8 l.cs.length c8] 27 := ((kb.set_same (i := 23) (u := .slice a7 (ds).length c7)).set_same (i := 24) (u := .slice a8 l.cs.length c8)).conv rfl
           have kz2 : Bk.Blk ((v1_.setCell ⟨w.heap.size, 23, none⟩ (.slice a7 (ds).length c7)).setCell ⟨w.heap.size, 24, none⟩ (.slice a8 l.cs.length c8)) (w.heap.size + 2) #[.int .i64 0, .int .i64 0, .int .i64 0, .int .i64 0, .int .i64 0, .int .i64 0, .int .i64 0, .int .i64 0, .int .i64 0, .int .i64 0, .int .i64 0, .int .i64 0, .int .i64 0, .int .i64 0, .int .i64 0, .int .i64 0, .int .i64 0, .int .i64 0, .int .i64 0, .int .i64 0, .int .i64 0, .string { data := #[] }, .string { data := #[] }, .slice none 0 0, .slice none 0 0] 27 := (Bk.Blk.set_ne (Bk.Blk.set_ne kz (g' := w.heap.size) (j := 23) (u := .slice a7 (ds).length c7) (by omega)) (g' := w.heap.size) (j := 24) (u := .slice a8 l.cs.length c8) (by omega))
           have cv2_ : Below w.heap.size w ((v1_.setCell ⟨w.heap.size, 23, none⟩ (.slice a7 (ds).length c7)).setCell ⟨w.heap.size, 24, none⟩ (.slice a8 l.cs.length c8)) := (Below.setCell (Below.setCell cv1_ (p := ⟨w.heap.size, 23, none⟩) (Nat.le_refl _) _) (p := ⟨w.heap.size, 24, none⟩) (Nat.le_refl _) _)
           have hr72 := (row_put (ad0 := ⟨w.heap.size, 24, none⟩) (u := .slice a8 l.cs.length c8) (row_put (ad0 := ⟨w.heap.size, 23, none⟩) (u := .slice a7 (ds).length c7) hr7 (fun ad had => by have := hf7' ad had; show ad.block ≠ w.heap.size; omega)) (fun ad had => by have := hf7' ad had; show ad.block ≠ w.heap.size; omega))
           have hr82 := (row_put (ad0 := ⟨w.heap.size, 24, none⟩) (u := .slice a8 l.cs.length c8) (row_put (ad0 := ⟨w.heap.size, 23, none⟩) (u := .slice a7 (ds).length c7) hr8 (fun ad had => by have := hf8' ad had; show ad.block ≠ w.heap.size; omega)) (fun ad had => by have := hf8' ad had; show ad.block ≠ w.heap.size; omega))
           clear kb kz cv1_ hr7 hr8
           have kb := kb2
           have kz := kz2
           have hr7 := hr72
           have hr8 := hr82
           clear kb2 kz2 hr72 hr82
           generalize ((v1_.setCell ⟨w.heap.size, 23, none⟩ (.slice a7 (ds).length c7)).setCell ⟨w.heap.size, 24, none⟩ (.slice a8 l.cs.length c8)) = v2_ at *
           have s5 : IntKind.i64.wrap (l.pp + pd) = l.pp + pd := by rw [IntKind.wrap_i64]; omega
           have x3 := kb.c3
           have y3 := kb.f3
           go_upto_region 22 with fail
           clear x3 y3
           clear s5
           have kb2 : Bk.Blk (v2_.setCell ⟨w.heap.size, 3, none⟩ (.int .i64 (l.pp + pd))) w.heap.size #[.int .i64 l.id, .int .i64 l.ac, .int .i64 l.st, .int .i64 (l.pp + pd), .int .i64 l.pi, .int .i64 l.fee, .int .i64 l.pen, .int .i64 l.chg, .int .i64 l.prov, .int .i64 l.loss, .int .i64 l.rcv, .int .i64 l.tm.me, .int .i64 l.tm.pr, .int .i64 l.tm.ppm, .int .i64 l.tm.stt, .int .i64 l.tm.ev, .int .i64 l.tm.ct, .int .i64 l.tm.ba, .int .i64 l.tm.mo, .int .i64 l.tm.pen, .int .i64 l.tm.fe, .string l.tm.cal, .string l.tm.cur, .slice a7 (ds).length c7, .slice a8 l.cs.length c8] 27 := (kb.set_same (i := 3) (u := .int .i64 (l.pp + pd))).conv rfl
           have kz2 : Bk.Blk (v2_.setCell ⟨w.heap.size, 3, none⟩ (.int .i64 (l.pp + pd))) (w.heap.size + 2) #[.int .i64 0, .int .i64 0, .int .i64 0, .int .i64 0, .int .i64 0, .int .i64 0, .int .i64 0, .int .i64 0, .int .i64 0, .int .i64 0, .int .i64 0, .int .i64 0, .int .i64 0, .int .i64 0, .int .i64 0, .int .i64 0, .int .i64 0, .int .i64 0, .int .i64 0, .int .i64 0, .int .i64 0, .string { data := #[] }, .string { data := #[] }, .slice none 0 0, .slice none 0 0] 27 := (Bk.Blk.set_ne kz (g' := w.heap.size) (j := 3) (u := .int .i64 (l.pp + pd)) (by omega))
           have cv3_ : Below w.heap.size w (v2_.setCell ⟨w.heap.size, 3, none⟩ (.int .i64 (l.pp + pd))) := (Below.setCell cv2_ (p := ⟨w.heap.size, 3, none⟩) (Nat.le_refl _) _)
           have hr72 := (row_put (ad0 := ⟨w.heap.size, 3, none⟩) (u := .int .i64 (l.pp + pd)) hr7 (fun ad had => by have := hf7' ad had; show ad.block ≠ w.heap.size; omega))
           have hr82 := (row_put (ad0 := ⟨w.heap.size, 3, none⟩) (u := .int .i64 (l.pp + pd)) hr8 (fun ad had => by have := hf8' ad had; show ad.block ≠ w.heap.size; omega))
           clear kb kz cv2_ hr7 hr8
           have kb := kb2
           have kz := kz2
           have hr7 := hr72
           have hr8 := hr82
           clear kb2 kz2 hr72 hr82
           generalize (v2_.setCell ⟨w.heap.size, 3, none⟩ (.int .i64 (l.pp + pd))) = v3_ at *
           have HQ := Lib.hid (show paQ l a = ppz [⟨1, a - pd⟩, ⟨4, pd⟩] by unfold paQ; rw [← HPD.out])
           have s6 : IntKind.i64.wrap (a - pd) = a - pd := by rw [IntKind.wrap_i64]; omega
           have hS0 : SQ w w.heap.size #[.int .i64 l.id, .int .i64 l.ac, .int .i64 l.st, .int .i64 (l.pp + pd), .int .i64 l.pi, .int .i64 l.fee, .int .i64 l.pen, .int .i64 l.chg, .int .i64 l.prov, .int .i64 l.loss, .int .i64 l.rcv, .int .i64 l.tm.me, .int .i64 l.tm.pr, .int .i64 l.tm.ppm, .int .i64 l.tm.stt, .int .i64 l.tm.ev, .int .i64 l.tm.ct, .int .i64 l.tm.ba, .int .i64 l.tm.mo, .int .i64 l.tm.pen, .int .i64 l.tm.fe, .string l.tm.cal, .string l.tm.cur, .slice a7 (ds).length c7, .slice a8 l.cs.length c8] 27 v3_.drew := ⟨Bk.Blk.drew kb, cv3_.drew⟩
           have hvz := kz.lt
           refine wp_region_held_drew (S := SQ w w.heap.size #[.int .i64 l.id, .int .i64 l.ac, .int .i64 l.st, .int .i64 (l.pp + pd), .int .i64 l.pi, .int .i64 l.fee, .int .i64 l.pen, .int .i64 l.chg, .int .i64 l.prov, .int .i64 l.loss, .int .i64 l.rcv, .int .i64 l.tm.me, .int .i64 l.tm.pr, .int .i64 l.tm.ppm, .int .i64 l.tm.stt, .int .i64 l.tm.ev, .int .i64 l.tm.ct, .int .i64 l.tm.ba, .int .i64 l.tm.mo, .int .i64 l.tm.pen, .int .i64 l.tm.fe, .string l.tm.cal, .string l.tm.cur, .slice a7 (ds).length c7, .slice a8 l.cs.length c8] 27) (by kernel_rfl) hS0 (fun hS => ?_)
           clear hS0
           refine take_at 0 (by decide) (by kernel_rfl) (by kernel_rfl) (by kernel_rfl) (fun _ _ _ h => h) hS (yields_load_row (by rfl) 27 (.tmp 5) rfl w.heap.size rfl _ _ _ _ (fun W hW => hW.1) Tryz.underlying27 rfl (by kernel_rfl)) ?_
           simp only [z0, z1, Act.put, z3, z4, z5]
           refine tk 1 (by decide) ?_ hS (by kernel_rfl) (by kernel_rfl) (by kernel_rfl) (by rfl) (fun _ _ _ h => h) ?_ ?_
           rotate_left
           ·intro W hW
            clear hW
            simp only [z0, z1]
            go_simp
            first | done | with_reducible rfl
           simp only [z0, z1, Act.put, z3, z4, z5]
           refine tk 2 (by decide) ?_ hS (by kernel_rfl) (by kernel_rfl) (by kernel_rfl) (by rfl) (fun _ _ _ h => h) ?_ ?_
           rotate_left
           ·intro W hW
            clear hW
            simp only [z0, z1]
            go_simp
            first | done | with_reducible rfl
           simp only [z0, z1, Act.put, z3, z4, z5]
           refine tk 5 (by decide) ?_ hS (by kernel_rfl) (by kernel_rfl) (by kernel_rfl) (by rfl) (fun _ _ _ h => h) ?_ ?_
           rotate_left
           ·intro W hW
            clear hW
            simp only [z0, z1]
            go_simp
            first | done | with_reducible rfl
           simp only [z0, z1, Act.put, z3, z4, z5]
           refine tk 3 (by decide) ?_ hS (by kernel_rfl) (by kernel_rfl) (by kernel_rfl) (by rfl) (fun _ _ _ h => h) ?_ ?_
           rotate_left
           ·intro W hW
            clear hW
            simp only [z0, z1]
            go_simp
            first | done | with_reducible rfl
           simp only [z0, z1, Act.put, z3, z4, z5]
           refine tk 6 (by decide) ?_ hS (by kernel_rfl) (by kernel_rfl) (by kernel_rfl) (by rfl) (fun _ _ _ h => h) ?_ ?_
           rotate_left
           ·intro W hW
            clear hW
            simp only [z0, z1]
            go_simp
            first | done | with_reducible rfl
           simp only [z0, z1, Act.put, z3, z4, z5]
           refine tk 4 (by decide) ?_ hS (by kernel_rfl) (by kernel_rfl) (by kernel_rfl) (by rfl) (fun _ _ _ h => h) ?_ ?_
           rotate_left
           ·intro W hW
            clear hW
            simp only [z0, z1]
            go_simp
            first | done | with_reducible rfl
           simp only [z0, z1, Act.put, z3, z4, z5]
           refine one_at 7 (by decide) (by kernel_rfl) (by rfl) (fun K hK => ?_)
           refine value_wp (w' := ((v3_.alloc (.cells #[.int .i64 1, .int .i64 (a - pd), .int .i64 4, .int .i64 pd] 65)).drew)) (by simp only [z0, z1]; go_simp; first | done | rfl | exact ⟨rfl, rfl⟩) ?_
           have hb4 : Below v3_.heap.size v3_ ((v3_.alloc (.cells #[.int .i64 1, .int .i64 (a - pd), .int .i64 4, .int .i64 pd] 65)).drew) := ((Below.refl _ _).alloc (Nat.le_refl _) _).drew
           have hn4 : RowIn penc ((v3_.alloc (.cells #[.int .i64 1, .int .i64 (a - pd), .int .i64 4, .int .i64 pd] 65)).drew) (some ⟨v3_.heap.size, 0, none⟩) [⟨1, a - pd⟩, ⟨4, pd⟩] := row_cells (Bk.Blk.drew Bk.Blk.nw10)
           have hT : SQ w w.heap.size #[.int .i64 l.id, .int .i64 l.ac, .int .i64 l.st, .int .i64 (l.pp + pd), .int .i64 l.pi, .int .i64 l.fee, .int .i64 l.pen, .int .i64 l.chg, .int .i64 l.prov, .int .i64 l.loss, .int .i64 l.rcv, .int .i64 l.tm.me, .int .i64 l.tm.pr, .int .i64 l.tm.ppm, .int .i64 l.tm.stt, .int .i64 l.tm.ev, .int .i64 l.tm.ct, .int .i64 l.tm.ba, .int .i64 l.tm.mo, .int .i64 l.tm.pen, .int .i64 l.tm.fe, .string l.tm.cal, .string l.tm.cur, .slice a7 (ds).length c7, .slice a8 l.cs.length c8] 27 ((v3_.alloc (.cells #[.int .i64 1, .int .i64 (a - pd), .int .i64 4, .int .i64 pd] 65)).drew) := ⟨kb.later hb4, bl2 hb4 cv3_⟩
           replace kz := kz.later hb4
           replace hr7 := hr7.later hb4
           replace hr8 := hr8.later hb4
           refine hK.out _ _ hT (fun hT' => ?_)
           clear hT' hb4 hK hS kb cv3_
           have hS := hT
           clear hT
           simp only [z0, z1, Act.put, z3, z4, z5]
           generalize ((v3_.alloc (.cells _ 65)).drew) = v4_ at *
           generalize v3_.heap.size = gq at *
           refine one_at 8 (by decide) (by kernel_rfl) (by rfl) (fun K hK => ?_)
           have hv4 := kz.lt
           refine call_wp (by simp only [z0, z1]; go_simp; first | done | rfl | exact ⟨rfl, rfl⟩) ((parts_any [⟨1, a - pd⟩, ⟨4, pd⟩] (some ⟨gq, 0, none⟩) 2 v4_ hn4 (by simp) (by simp)).mono ?_)
           rintro e v5_ ⟨gp', pc, rfl, hp, hgp', hb⟩
           have hT := SQ.mono _ _ hS hb
           have hgz : w.heap.size + 2 < gp' := by omega
           have kzz := kz.later hb
           have hr7 := hr7.later hb
           have hr8 := hr8.later hb
           refine ⟨_, rfl, hK.out _ _ hT (fun hT' => ?_)⟩
           clear hT' hS hK hb hn4 hgp' kz hv4
           have kz := kzz
           clear kzz
           have hS := hT
           clear hT
           simp only [z0, z1, Act.put, z3, z4, z5]
           refine one_at 9 (by decide) (by kernel_rfl) (by rfl) (fun K hK => ?_)
           simp only [z0, z1]
           refine wp_store_row 27 _ _ rfl (w.heap.size + 2) _ rfl rfl _ _ kz (by kernel_rfl) rfl (one25 ..) ?_
           have hT : SQ w w.heap.size #[.int .i64 l.id, .int .i64 l.ac, .int .i64 l.st, .int .i64 (l.pp + pd), .int .i64 l.pi, .int .i64 l.fee, .int .i64 l.pen, .int .i64 l.chg, .int .i64 l.prov, .int .i64 l.loss, .int .i64 l.rcv, .int .i64 l.tm.me, .int .i64 l.tm.pr, .int .i64 l.tm.ppm, .int .i64 l.tm.stt, .int .i64 l.tm.ev, .int .i64 l.tm.ct, .int .i64 l.tm.ba, .int .i64 l.tm.mo, .int .i64 l.tm.pen, .int .i64 l.tm.fe, .string l.tm.cal, .string l.tm.cur, .slice a7 (ds).length c7, .slice a8 l.cs.length c8] 27 (v5_.setRow (w.heap.size + 2) #[.int .i64 l.id, .int .i64 l.ac, .int .i64 l.st, .int .i64 (l.pp + pd), .int .i64 l.pi, .int .i64 l.fee, .int .i64 l.pen, .int .i64 l.chg, .int .i64 l.prov, .int .i64 l.loss, .int .i64 l.rcv, .int .i64 l.tm.me, .int .i64 l.tm.pr, .int .i64 l.tm.ppm, .int .i64 l.tm.stt, .int .i64 l.tm.ev, .int .i64 l.tm.ct, .int .i64 l.tm.ba, .int .i64 l.tm.mo, .int .i64 l.tm.pen, .int .i64 l.tm.fe, .string l.tm.cal, .string l.tm.cur, .slice a7 (ds).length c7, .slice a8 l.cs.length c8]) := ⟨Blk_setRow_ne hS.1 (by omega), Below_setRow hS.2 (by omega) _⟩
           refine hK.out _ _ hT (fun hT' => ?_)
           clear hT' hS hK
           have hS := hT
           clear hT
           simp only [z0, z1, Act.put, z3, z4, z5]
           refine tk 10 (by decide) ?_ hS (by kernel_rfl) (by kernel_rfl) (by kernel_rfl) (by rfl) (fun _ _ _ h => h) ?_ ?_
           rotate_left
           ·intro W hW
            clear hW
            simp only [z0, z1]
            go_simp
            first | done | with_reducible rfl
           simp only [z0, z1, Act.put, z3, z4, z5]
           refine tk 11 (by decide) ?_ hS (by kernel_rfl) (by kernel_rfl) (by kernel_rfl) (by rfl) (fun _ _ _ h => h) ?_ ?_
           rotate_left
           ·intro W hW
            clear hW
            simp only [z0, z1]
            go_simp
            first | done | with_reducible rfl
           simp only [z0, z1, Act.put, z3, z4, z5]
           refine wpAnyH_done (by kernel_rfl) ?_ _
           rw [← HQ.out] at hp
           rw [← HQ.out]
           go_wp2_with fail
           refine bodyPost_ret (results3_cell' Tryz.results17 _ _ _ _ _ _ _ rfl (Blk_setRow_same kz) Tryz.underlying27 rfl (by kernel_rfl)) rfl ?_
           exact pao_ok HF.out HDS.out.symm (by rw [HPD.out]) rfl (dues_setRow (dues_of_row (by omega) hr7) (fun ad had => by have := hf7' ad had; omega)) (row_row hr8 (fun ad had => by have := hf8' ad had; omega)) (row_row hp (fun ad had => by cases had; show gp' ≠ _; omega)) hS.2
        ·have HF := Lib.hid (show paE l a day keep c = LE from by rw [HLEE.out, HR.out]; exact paE_4 HOP.out HE.out H3.out (by rw [← HR.out, ← HLEE.out]; exact he4))
         have HN := Lib.hid he4
         have g4 : (LE != 0) = true := by simpa using he4
         clear he4
         go_wp2_with (refine wpList_store_row rfl 27 _ _ rfl _ _ rfl rfl _ _ kz (by kernel_rfl) rfl (by simp [Value.oneCell', denc]) ?_)
         (try simp only [Exit.inBlock, Exit.then])
         refine bodyPost_ret (results3_cell' Tryz.results17 _ _ _ _ _ _ _ rfl (Blk_setRow_same kz) Tryz.underlying27 rfl (by kernel_rfl)) rfl ?_
         exact pao_no HF.out HN.out (Below_setRow cwb (by omega) _)
      ·have HF := Lib.hid (show paE l a day keep c = 6 from paE_3 HOP.out HE.out (by rw [HO2.out, HRS.out]; exact fun e => hg3 e.2.2))
       rw [decide_eq_false hg3]
       clear hg3
       go_wp2_with (refine wpList_store_row rfl 27 _ _ rfl _ _ rfl rfl _ _ kz (by kernel_rfl) rfl (by simp [Value.oneCell', denc]) ?_)
       (try simp only [Exit.inBlock, Exit.then])
       refine bodyPost_ret (results3_cell' Tryz.results17 _ _ _ _ _ _ _ rfl (Blk_setRow_same kz) Tryz.underlying27 rfl (by kernel_rfl)) rfl ?_
       exact pao_no HF.out (by decide) (Below_setRow cw10 (by omega) _)
     ·have HF := Lib.hid (show paE l a day keep c = 6 from paE_3 HOP.out HE.out (by rw [HO2.out, HRS.out]; exact fun e => hg2 e.2.1))
      rw [decide_eq_false hg2]
      clear hg2
      go_wp2_with (refine wpList_store_row rfl 27 _ _ rfl _ _ rfl rfl _ _ kz (by kernel_rfl) rfl (by simp [Value.oneCell', denc]) ?_)
      (try simp only [Exit.inBlock, Exit.then])
      refine bodyPost_ret (results3_cell' Tryz.results17 _ _ _ _ _ _ _ rfl (Blk_setRow_same kz) Tryz.underlying27 rfl (by kernel_rfl)) rfl ?_
      exact pao_no HF.out (by decide) (Below_setRow cw9 (by omega) _)
    ·have HF := Lib.hid (show paE l a day keep c = 6 from paE_3 HOP.out HE.out (by rw [HO2.out, HRS.out]; exact fun e => hg1' e.1))
     rw [decide_eq_false hg1']
     clear hg1'
     go_wp2_with (refine wpList_store_row rfl 27 _ _ rfl _ _ rfl rfl _ _ kz (by kernel_rfl) rfl (by simp [Value.oneCell', denc]) ?_)
     (try simp only [Exit.inBlock, Exit.then])
     refine bodyPost_ret (results3_cell' Tryz.results17 _ _ _ _ _ _ _ rfl (Blk_setRow_same kz) Tryz.underlying27 rfl (by kernel_rfl)) rfl ?_
     exact pao_no HF.out (by decide) (Below_setRow cw8 (by omega) _)
  ·rw [if_neg he]
   have HF := Lib.hid (paE_2 HOP.out he)
   have HN := Lib.hid he
   have g1 : (alE l a day keep c != 0) = true := by simpa using he
   clear he
   generalize alE l a day keep c = E at HF HN g1 ⊢
   go_wp2_with (refine wpList_store_row rfl 27 _ _ rfl _ _ rfl rfl _ _ kz (by kernel_rfl) rfl (by simp [Value.oneCell', denc]) ?_)
   (try simp only [Exit.inBlock, Exit.then])
   refine bodyPost_ret (results3_cell' Tryz.results17 _ _ _ _ _ _ _ rfl (Blk_setRow_same kz) Tryz.underlying27 rfl (by kernel_rfl)) rfl ?_
   exact pao_no HF.out HN.out (Below_setRow cw4 (by omega) _)
 ·refine (open_no l da ca dk ck day _ hd hop).mono ?_
  rintro e w2 ⟨rfl, hb⟩
  replace k0 := k0.later hb
  replace kc := kc.later hb
  replace kz := kz.later hb
  have cw2 := bl2 hb cw1
  clear hb cw1
  have hkz2 := kz.lt
  go_upto_region 2 with (refine wpList_store_row rfl 56 _ _ rfl _ _ rfl rfl _ _ Bk.Blk.nw10 (by kernel_rfl) rfl (by simp [Value.oneCell', denc]) ?_)
  have hbv : Below w2.heap.size w2 ((w2.alloc (.cells #[.int .i64 0, .int .i64 0, .int .i64 0, .int .i64 0, .int .i64 0, .int .i64 0, .int .i64 0, .int .i64 0, .int .i64 0, .int .i64 0, .int .i64 0, .int .i64 0, .int .i64 0, .int .i64 0, .int .i64 0, .int .i64 0, .int .i64 0, .int .i64 0, .int .i64 0, .int .i64 0, .int .i64 0, .string { data := #[] }, .string { data := #[] }, .slice none 0 0, .slice none 0 0, .slice none 0 0, .slice none 0 0] 56)).setRow w2.heap.size #[.int .i64 0, .int .i64 0, .int .i64 0, .int .i64 0, .int .i64 0, .int .i64 0, .int .i64 0, .int .i64 0, .int .i64 0, .int .i64 0, .int .i64 0, .int .i64 0, .int .i64 0, .int .i64 0, .int .i64 0, .int .i64 0, .int .i64 0, .int .i64 0, .int .i64 0, .int .i64 0, .int .i64 0, .string { data := #[] }, .string { data := #[] }, .slice none 0 0, .slice none 0 0, .slice none 0 0, .slice none 0 0]) := Below_setRow ((Below.refl _ _).alloc (Nat.le_refl _) _) (Nat.le_refl _) _
  have kv : Bk.Blk ((w2.alloc (.cells #[.int .i64 0, .int .i64 0, .int .i64 0, .int .i64 0, .int .i64 0, .int .i64 0, .int .i64 0, .int .i64 0, .int .i64 0, .int .i64 0, .int .i64 0, .int .i64 0, .int .i64 0, .int .i64 0, .int .i64 0, .int .i64 0, .int .i64 0, .int .i64 0, .int .i64 0, .int .i64 0, .int .i64 0, .string { data := #[] }, .string { data := #[] }, .slice none 0 0, .slice none 0 0, .slice none 0 0, .slice none 0 0] 56)).setRow w2.heap.size #[.int .i64 0, .int .i64 0, .int .i64 0, .int .i64 0, .int .i64 0, .int .i64 0, .int .i64 0, .int .i64 0, .int .i64 0, .int .i64 0, .int .i64 0, .int .i64 0, .int .i64 0, .int .i64 0, .int .i64 0, .int .i64 0, .int .i64 0, .int .i64 0, .int .i64 0, .int .i64 0, .int .i64 0, .string { data := #[] }, .string { data := #[] }, .slice none 0 0, .slice none 0 0, .slice none 0 0, .slice none 0 0]) w2.heap.size _ 56 := Blk_setRow_same Bk.Blk.nw10
  have cw3 := bl2 hbv cw2
  replace kz := kz.later hbv
  replace k0 := k0.later hbv
  replace kc := kc.later hbv
  have hgv : w.heap.size + 2 < w2.heap.size := hkz2
  clear cw2 hkz2
  generalize ((w2.alloc (.cells _ 56)).setRow w2.heap.size _) = w3 at *
  generalize w2.heap.size = gv at *
  have HF := Lib.hid (show paE l a day keep c = 1 from paE_1 (l := l) (day := day) hop)
  go_wp2_with (refine wpList_store_row rfl 27 _ _ rfl _ _ rfl rfl _ _ kz (by kernel_rfl) rfl (by simp [Value.oneCell', denc]) ?_)
  (try simp only [Exit.inBlock, Exit.then])
  refine bodyPost_ret (results3_cell' Tryz.results17 _ _ _ _ _ _ _ rfl (Blk_setRow_same kz) Tryz.underlying27 rfl (by kernel_rfl)) rfl ?_
  exact pao_no HF.out (by decide) (Below_setRow cw3 (by omega) _)
end Go.Proofs.YtaanicginfjgdaaGreatDoor.Pp
