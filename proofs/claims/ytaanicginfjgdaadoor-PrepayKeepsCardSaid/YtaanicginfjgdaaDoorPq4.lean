/-
  PrepayKeeps: its walk.
-/
import Derived.Test.YtaanicginfjgdaaDoorPq3
import Derived.Test.YtaanicginfjgdaaDoorPf
namespace Go.Proofs.YtaanicginfjgdaaDoor.Pp
open Go Go.RowKit
open Go.Proofs.YtaanicginfjgdaaDoor
open Go.Proofs.YtaanicginfjgdaaDoor.Ln (Tm Ch Du Lo Pa sum prs its P I due chk Ok ok_iff wrap_in wrap_add powed zLo LoIn DuesIn RowIn OwnR denc denc_len cenc cenc_len penc penc_len tenc flat flat_len Dok dues_of_row bl2 SB SB.mono SQ SQ.mono take_at one_at two_at call_at call_wp call_one call_pv value_wp yields_load_row Blk_setRow_same Blk_setRow_ne Below_setRow dues_setRow row_row one25 load_guarded results2_cell dues_lt rowc_lt rangeAt_later tk ts z0 z1 z3 z4 z5)
open Go.Proofs.YtaanicginfjgdaaDoor.Rd (gd pcV pcE Stp)
open Go.Proofs.YtaanicginfjgdaaDoor.Kl (Cl CalIn skE)
set_option linter.unusedSimpArgs false
set_option linter.unusedVariables false
set_option maxRecDepth 100000

structure KpF (l L : Lo) (ps : List Pa) (a day keep pd : Int) (k m n : Nat) : Prop where
  ok : chk L = 0
  dk : Dok L.ds
  or : Or L.ds
  dn : L.ds.length ≤ 240
  t : totW ps = a
  pn : ps.length ≤ 100000
  o1 : wrap64 (P l.ds - l.pp) = P l.ds - l.pp
  o2 : wrap64 (P L.ds - L.pp) = P l.ds - l.pp - pd
  o3 : 0 ≤ P l.ds - l.pp ∧ P l.ds - l.pp ≤ 240000000000000
  p : P L.ds = P l.ds
  fe : feV l a = a - pd
  fz : feE l a = 0
  g : 1 ≤ pd ∧ pd ≤ 1000000000000
  a1 : 1 ≤ a ∧ a ≤ 1000000000000
  q1 : atN l day = k
  q2 : atN L day = k + 1
  len : L.ds.length = k + 1 + m
  ln : l.ds.length = k + n
  mn : m ≤ n
  eq : keep = 1 → m = n
  kp : keep = 1 ∨ keep = 2
  ow : powed L day = []
theorem kp_facts {l : Lo} {a day keep : Int} {c : Cl} (h : paE l a day keep c = 0) : ∃ m n, KpF l (paO l a day keep) (paQ l a) a day keep (paid l a) (atN l day) m n := by
  have hP := pa_parts h
  have hA := hP.al
  have hi := hA.inv hP.g1 hP.lv (pout_self ..)
  have hK := part_ok hP hi
  have ho := hA.ok
  have hv := view ho day
  have hok := ok_iff.1 hK.ok
  have hfe := fe_ok ho (a := a) (by have := hA.a0; omega) hA.a1
  have hpd : paid l a = a - feV l a := rfl
  have hal := at_le l day
  have p1 := hA.p1
  have p0 := hA.p0
  have pp := ho.pp
  have v := hv.P2
  have v' := hv.P
  refine ⟨(bld l a day keep).length, l.ds.length - atN l day, hK.ok, dok_all hok.each, ord_iff.1 hok.ord, hok.n2, ?_, ?_, ?_, ?_, by omega, hK.P, by omega, hfe.1, by have := hA.p2; have := hA.a1; omega, ⟨hA.a0, hA.a1⟩, rfl, hK.at_, hK.len, by omega, hK.le, fun hk => hK.eq (by omega), hA.kp, hK.owed⟩
  · unfold totW
    rw [part_tot]
    have := hA.a1
    have := hA.a0
    unfold wrap64
    omega
  · have : (paQ l a).length ≤ 2 := List.length_filter_le ..
    omega
  · unfold wrap64
    omega
  · show wrap64 (P (paD l a day keep) - (l.pp + paid l a)) = _
    rw [hK.P]
    unfold wrap64
    omega
def sumTo (ds : List Du) (i : Nat) : Int := P (ds.take i)
theorem sumTo_succ {ds : List Du} {i : Nat} (h : i < ds.length) : sumTo ds (i + 1) = wrap64 (sumTo ds i + ds[i]!.pr) := by
  unfold sumTo P prs
  rw [List.take_add_one, List.map_append, Ln.sum_append, List.getElem?_eq_getElem h, getElem!_pos ds i h]
  simp [sum, wrap_add]
theorem sumTo_zero (ds : List Du) : sumTo ds 0 = 0 := by unfold sumTo; rw [List.take_zero]; exact Ln.P_nil
theorem sumTo_all (ds : List Du) {i : Nat} (h : i = ds.length) : sumTo ds i = P ds := by unfold sumTo; rw [h, List.take_length]
/-- Where a loop over installments stands. -/
def SuR (w1 : World) (ds : List Du) (g : Nat) (s0 s1 : Value) (W : World) : Prop := ∃ i : Nat, i + g = ds.length ∧ s1 = .int .i64 i ∧ s0 = .int .i64 (sumTo ds i) ∧ w1 = W
set_option maxHeartbeats 32000000 in
theorem keeps35_walk (l : Lo) (da ca : Option Addr) (dk ck : Nat) (a day keep : Int) (c : Cl) (wa ha : Option Addr) (wc hc : Nat) (_ : (Lit.int .i64 a).wf = true) (_ : (Lit.int .i64 day).wf = true) (_ : (Lit.int .i64 keep).wf = true) (w : World) (hl : LoIn w l da ca) (hk : Dok l.ds) (hdk : l.ds.length ≤ dk) (hcal : CalIn w c wa ha) (hS : Stp w) :
    Calls Tryd.prog 4 #[(.agg #[.int .i64 (l).id, .int .i64 (l).ac, .int .i64 (l).st, .int .i64 (l).pp, .int .i64 (l).pi, .int .i64 (l).fee, .int .i64 (l).pen, .int .i64 (l).chg, .int .i64 (l).prov, .int .i64 (l).loss, .int .i64 (l).rcv, .int .i64 ((l).tm).me, .int .i64 ((l).tm).pr, .int .i64 ((l).tm).ppm, .int .i64 ((l).tm).stt, .int .i64 ((l).tm).ev, .int .i64 ((l).tm).ct, .int .i64 ((l).tm).ba, .int .i64 ((l).tm).mo, .int .i64 ((l).tm).pen, .int .i64 ((l).tm).fe, .string ((l).tm).cal, .string ((l).tm).cur, .slice da (l).ds.length dk, .slice ca (l).cs.length ck]), .agg #[.int .i64 a, .int .i64 day, .int .i64 keep], (.agg #[.string (c).nm, .slice wa (c).wk.length wc, .slice ha (c).hol.length hc])] w fun e w' => e = .returned (.bool true) ∧ Below w.heap.size w w' := by
  have cw1 : Below w.heap.size w (((w.alloc (.cells #[.int .i64 (l).id, .int .i64 (l).ac, .int .i64 (l).st, .int .i64 (l).pp, .int .i64 (l).pi, .int .i64 (l).fee, .int .i64 (l).pen, .int .i64 (l).chg, .int .i64 (l).prov, .int .i64 (l).loss, .int .i64 (l).rcv, .int .i64 ((l).tm).me, .int .i64 ((l).tm).pr, .int .i64 ((l).tm).ppm, .int .i64 ((l).tm).stt, .int .i64 ((l).tm).ev, .int .i64 ((l).tm).ct, .int .i64 ((l).tm).ba, .int .i64 ((l).tm).mo, .int .i64 ((l).tm).pen, .int .i64 ((l).tm).fe, .string ((l).tm).cal, .string ((l).tm).cur, .slice da (l).ds.length dk, .slice ca (l).cs.length ck] 27)).alloc (.cells #[.int .i64 a, .int .i64 day, .int .i64 keep] 43)).alloc (.cells #[.string c.nm, .slice wa c.wk.length wc, .slice ha c.hol.length hc] 46)) := (((Below.refl _ _).alloc (Nat.le_refl _) _).alloc (by simp) _).alloc (by simp; omega) _
  have k0 : Bk.Blk (((w.alloc (.cells #[.int .i64 (l).id, .int .i64 (l).ac, .int .i64 (l).st, .int .i64 (l).pp, .int .i64 (l).pi, .int .i64 (l).fee, .int .i64 (l).pen, .int .i64 (l).chg, .int .i64 (l).prov, .int .i64 (l).loss, .int .i64 (l).rcv, .int .i64 ((l).tm).me, .int .i64 ((l).tm).pr, .int .i64 ((l).tm).ppm, .int .i64 ((l).tm).stt, .int .i64 ((l).tm).ev, .int .i64 ((l).tm).ct, .int .i64 ((l).tm).ba, .int .i64 ((l).tm).mo, .int .i64 ((l).tm).pen, .int .i64 ((l).tm).fe, .string ((l).tm).cal, .string ((l).tm).cur, .slice da (l).ds.length dk, .slice ca (l).cs.length ck] 27)).alloc (.cells #[.int .i64 a, .int .i64 day, .int .i64 keep] 43)).alloc (.cells #[.string c.nm, .slice wa c.wk.length wc, .slice ha c.hol.length hc] 46)) w.heap.size #[.int .i64 (l).id, .int .i64 (l).ac, .int .i64 (l).st, .int .i64 (l).pp, .int .i64 (l).pi, .int .i64 (l).fee, .int .i64 (l).pen, .int .i64 (l).chg, .int .i64 (l).prov, .int .i64 (l).loss, .int .i64 (l).rcv, .int .i64 ((l).tm).me, .int .i64 ((l).tm).pr, .int .i64 ((l).tm).ppm, .int .i64 ((l).tm).stt, .int .i64 ((l).tm).ev, .int .i64 ((l).tm).ct, .int .i64 ((l).tm).ba, .int .i64 ((l).tm).mo, .int .i64 ((l).tm).pen, .int .i64 ((l).tm).fe, .string ((l).tm).cal, .string ((l).tm).cur, .slice da (l).ds.length dk, .slice ca (l).cs.length ck] 27 := Bk.Blk.nw30
  have ka : Bk.Blk (((w.alloc (.cells #[.int .i64 (l).id, .int .i64 (l).ac, .int .i64 (l).st, .int .i64 (l).pp, .int .i64 (l).pi, .int .i64 (l).fee, .int .i64 (l).pen, .int .i64 (l).chg, .int .i64 (l).prov, .int .i64 (l).loss, .int .i64 (l).rcv, .int .i64 ((l).tm).me, .int .i64 ((l).tm).pr, .int .i64 ((l).tm).ppm, .int .i64 ((l).tm).stt, .int .i64 ((l).tm).ev, .int .i64 ((l).tm).ct, .int .i64 ((l).tm).ba, .int .i64 ((l).tm).mo, .int .i64 ((l).tm).pen, .int .i64 ((l).tm).fe, .string ((l).tm).cal, .string ((l).tm).cur, .slice da (l).ds.length dk, .slice ca (l).cs.length ck] 27)).alloc (.cells #[.int .i64 a, .int .i64 day, .int .i64 keep] 43)).alloc (.cells #[.string c.nm, .slice wa c.wk.length wc, .slice ha c.hol.length hc] 46)) (w.heap.size + 1) #[.int .i64 a, .int .i64 day, .int .i64 keep] 43 := Bk.Blk.nw31
  have kc : Bk.Blk (((w.alloc (.cells #[.int .i64 (l).id, .int .i64 (l).ac, .int .i64 (l).st, .int .i64 (l).pp, .int .i64 (l).pi, .int .i64 (l).fee, .int .i64 (l).pen, .int .i64 (l).chg, .int .i64 (l).prov, .int .i64 (l).loss, .int .i64 (l).rcv, .int .i64 ((l).tm).me, .int .i64 ((l).tm).pr, .int .i64 ((l).tm).ppm, .int .i64 ((l).tm).stt, .int .i64 ((l).tm).ev, .int .i64 ((l).tm).ct, .int .i64 ((l).tm).ba, .int .i64 ((l).tm).mo, .int .i64 ((l).tm).pen, .int .i64 ((l).tm).fe, .string ((l).tm).cal, .string ((l).tm).cur, .slice da (l).ds.length dk, .slice ca (l).cs.length ck] 27)).alloc (.cells #[.int .i64 a, .int .i64 day, .int .i64 keep] 43)).alloc (.cells #[.string c.nm, .slice wa c.wk.length wc, .slice ha c.hol.length hc] 46)) (w.heap.size + 2) #[.string c.nm, .slice wa c.wk.length wc, .slice ha c.hol.length hc] 46 := Bk.Blk.nw32
  have HC := Lib.hid (fun W (hW : Below w.heap.size w W) => hl.c.later hW)
  have HI := Lib.hid (fun W (hW : Below w.heap.size w W) => hl.d.later hW)
  have HCL := Lib.hid (fun W (hW : Below w.heap.size w W) => hcal.later hW)
  have HST := Lib.hid (fun W (hW : Below w.heap.size w W) => hS.of hW)
  have HDK := Lib.hid hk
  clear hl hS hcal hk
  go_enter Tryd.func4, Tryd.ntmps4
  go_upto_region 1 with fail
  generalize (((w.alloc (.cells #[.int .i64 (l).id, .int .i64 (l).ac, .int .i64 (l).st, .int .i64 (l).pp, .int .i64 (l).pi, .int .i64 (l).fee, .int .i64 (l).pen, .int .i64 (l).chg, .int .i64 (l).prov, .int .i64 (l).loss, .int .i64 (l).rcv, .int .i64 ((l).tm).me, .int .i64 ((l).tm).pr, .int .i64 ((l).tm).ppm, .int .i64 ((l).tm).stt, .int .i64 ((l).tm).ev, .int .i64 ((l).tm).ct, .int .i64 ((l).tm).ba, .int .i64 ((l).tm).mo, .int .i64 ((l).tm).pen, .int .i64 ((l).tm).fe, .string ((l).tm).cal, .string ((l).tm).cur, .slice da (l).ds.length dk, .slice ca (l).cs.length ck] 27)).alloc (.cells #[.int .i64 a, .int .i64 day, .int .i64 keep] 43)).alloc (.cells #[.string c.nm, .slice wa c.wk.length wc, .slice ha c.hol.length hc] 46)) = w1 at *
  go_wp2_with (first | (refine wpList_load_row rfl 27 _ rfl _ rfl _ _ _ _ k0 Tryd.underlying27 rfl (by kernel_rfl) ?_) | (refine load_guarded 27 _ rfl rfl _ rfl _ _ _ _ k0 Tryd.underlying27 rfl (by kernel_rfl) ?_) | (refine wpList_load_row rfl 46 _ rfl _ rfl _ _ _ _ kc Tryd.underlying46 rfl (by kernel_rfl) ?_) | (refine load_guarded 46 _ rfl rfl _ rfl _ _ _ _ kc Tryd.underlying46 rfl (by kernel_rfl) ?_))
  refine (great35_any l da ca dk ck _ (HC.out _ cw1)).mono ?_
  rintro e w2 ⟨b, rfl, hbb, hb⟩
  have cw2 := bl2 hb cw1
  replace k0 := k0.later hb
  replace ka := ka.later hb
  replace kc := kc.later hb
  clear hb cw1
  cases b
  · have hbd := hbb rfl
    clear hbb
    go_wp2_with (first | (refine wpList_load_row rfl 27 _ rfl _ rfl _ _ _ _ k0 Tryd.underlying27 rfl (by kernel_rfl) ?_) | (refine load_guarded 27 _ rfl rfl _ rfl _ _ _ _ k0 Tryd.underlying27 rfl (by kernel_rfl) ?_) | (refine wpList_load_row rfl 46 _ rfl _ rfl _ _ _ _ kc Tryd.underlying46 rfl (by kernel_rfl) ?_) | (refine load_guarded 46 _ rfl rfl _ rfl _ _ _ _ kc Tryd.underlying46 rfl (by kernel_rfl) ?_))
    refine (broad_any c wa ha wc hc _).mono ?_
    rintro e w3 ⟨b2, rfl, hb⟩
    have cw3 := bl2 hb cw2
    replace k0 := k0.later hb
    replace ka := ka.later hb
    replace kc := kc.later hb
    clear hb cw2
    cases b2
    · have hd : DuesIn w3 da l.ds := dues_of_row (by omega) (HI.out _ cw3)
      go_wp2_with (first | (refine wpList_load_row rfl 27 _ rfl _ rfl _ _ _ _ k0 Tryd.underlying27 rfl (by kernel_rfl) ?_) | (refine load_guarded 27 _ rfl rfl _ rfl _ _ _ _ k0 Tryd.underlying27 rfl (by kernel_rfl) ?_) | (refine wpList_load_row rfl 46 _ rfl _ rfl _ _ _ _ kc Tryd.underlying46 rfl (by kernel_rfl) ?_) | (refine load_guarded 46 _ rfl rfl _ rfl _ _ _ _ kc Tryd.underlying46 rfl (by kernel_rfl) ?_))
      refine (Ln.rcheck_any l da ca dk ck _ hd HDK.out).mono ?_
      rintro e w4 ⟨rfl, hb⟩
      have cw4 := bl2 hb cw3
      replace k0 := k0.later hb
      replace ka := ka.later hb
      replace kc := kc.later hb
      replace hd := hd.later hb
      clear hb cw3
      by_cases hk0 : chk l = 0
      · have HOK := Lib.hid hk0
        have ho := ok_iff.1 hk0
        have hor := ord_iff.1 ho.ord
        have hp0 := ho.each
        have g1 : (chk l != 0) = false := by rw [hk0]; rfl
        clear hk0
        generalize chk l = E at g1 ⊢
        have l0 := ka.c0
        have l1 := ka.c1
        have l2 := ka.c2
        go_wp2_with (first | (refine wpList_load_row rfl 27 _ rfl _ rfl _ _ _ _ k0 Tryd.underlying27 rfl (by kernel_rfl) ?_) | (refine load_guarded 27 _ rfl rfl _ rfl _ _ _ _ k0 Tryd.underlying27 rfl (by kernel_rfl) ?_) | (refine wpList_load_row rfl 46 _ rfl _ rfl _ _ _ _ kc Tryd.underlying46 rfl (by kernel_rfl) ?_) | (refine load_guarded 46 _ rfl rfl _ rfl _ _ _ _ kc Tryd.underlying46 rfl (by kernel_rfl) ?_))
        clear l0 l1 l2
        clear g1
        refine (partial_any l da ca dk ck a day keep c wa ha wc hc _ hd (HC.out _ cw4) hdk (by omega) (HCL.out _ cw4) (by have := hbd.2.2; unfold maxLen; omega) (HST.out _ cw4)).mono ?_
        intro e w5 hpa
        by_cases hz : paE l a day keep c = 0
        · obtain ⟨m, n, hF⟩ := kp_facts hz
          obtain ⟨pd, hpd⟩ : ∃ p, p = paid l a := ⟨_, rfl⟩
          obtain ⟨k, hk⟩ : ∃ k, k = atN l day := ⟨_, rfl⟩
          obtain ⟨L, hL⟩ : ∃ L, L = paO l a day keep := ⟨_, rfl⟩
          obtain ⟨ps, hps⟩ : ∃ ps, ps = paQ l a := ⟨_, rfl⟩
          rw [← hL, ← hps, ← hpd, ← hk] at hF
          obtain ⟨da1, ca1, pa1, dk1, ck1, pc1, rfl, hd1, hc1, hp1, hb⟩ := pao_good hpa hz hL hps
          clear hpa hz hL hps hpd hk
          have cw5 := bl2 hb cw4
          replace k0 := k0.later hb
          replace ka := ka.later hb
          replace hd := hd.later hb
          clear hb cw4 kc
          go_upto_region 4 with (refine wpList_store_row rfl 27 _ _ rfl _ _ rfl rfl _ _ Bk.Blk.nw10 (by kernel_rfl) rfl (by simp [Value.oneCell', denc]) ?_)
          have hX : Below w5.heap.size w5 ((w5.alloc (.cells #[.int .i64 0, .int .i64 0, .int .i64 0, .int .i64 0, .int .i64 0, .int .i64 0, .int .i64 0, .int .i64 0, .int .i64 0, .int .i64 0, .int .i64 0, .int .i64 0, .int .i64 0, .int .i64 0, .int .i64 0, .int .i64 0, .int .i64 0, .int .i64 0, .int .i64 0, .int .i64 0, .int .i64 0, .string { data := #[] }, .string { data := #[] }, .slice none 0 0, .slice none 0 0] 27)).setRow w5.heap.size #[.int .i64 (L).id, .int .i64 (L).ac, .int .i64 (L).st, .int .i64 (L).pp, .int .i64 (L).pi, .int .i64 (L).fee, .int .i64 (L).pen, .int .i64 (L).chg, .int .i64 (L).prov, .int .i64 (L).loss, .int .i64 (L).rcv, .int .i64 ((L).tm).me, .int .i64 ((L).tm).pr, .int .i64 ((L).tm).ppm, .int .i64 ((L).tm).stt, .int .i64 ((L).tm).ev, .int .i64 ((L).tm).ct, .int .i64 ((L).tm).ba, .int .i64 ((L).tm).mo, .int .i64 ((L).tm).pen, .int .i64 ((L).tm).fe, .string ((L).tm).cal, .string ((L).tm).cur, .slice da1 (L).ds.length dk1, .slice ca1 (L).cs.length ck1]) := Below_setRow ((Below.refl _ _).alloc (Nat.le_refl _) _) (Nat.le_refl _) _
          have k5 : Bk.Blk ((w5.alloc (.cells #[.int .i64 0, .int .i64 0, .int .i64 0, .int .i64 0, .int .i64 0, .int .i64 0, .int .i64 0, .int .i64 0, .int .i64 0, .int .i64 0, .int .i64 0, .int .i64 0, .int .i64 0, .int .i64 0, .int .i64 0, .int .i64 0, .int .i64 0, .int .i64 0, .int .i64 0, .int .i64 0, .int .i64 0, .string { data := #[] }, .string { data := #[] }, .slice none 0 0, .slice none 0 0] 27)).setRow w5.heap.size #[.int .i64 (L).id, .int .i64 (L).ac, .int .i64 (L).st, .int .i64 (L).pp, .int .i64 (L).pi, .int .i64 (L).fee, .int .i64 (L).pen, .int .i64 (L).chg, .int .i64 (L).prov, .int .i64 (L).loss, .int .i64 (L).rcv, .int .i64 ((L).tm).me, .int .i64 ((L).tm).pr, .int .i64 ((L).tm).ppm, .int .i64 ((L).tm).stt, .int .i64 ((L).tm).ev, .int .i64 ((L).tm).ct, .int .i64 ((L).tm).ba, .int .i64 ((L).tm).mo, .int .i64 ((L).tm).pen, .int .i64 ((L).tm).fe, .string ((L).tm).cal, .string ((L).tm).cur, .slice da1 (L).ds.length dk1, .slice ca1 (L).cs.length ck1]) w5.heap.size #[.int .i64 (L).id, .int .i64 (L).ac, .int .i64 (L).st, .int .i64 (L).pp, .int .i64 (L).pi, .int .i64 (L).fee, .int .i64 (L).pen, .int .i64 (L).chg, .int .i64 (L).prov, .int .i64 (L).loss, .int .i64 (L).rcv, .int .i64 ((L).tm).me, .int .i64 ((L).tm).pr, .int .i64 ((L).tm).ppm, .int .i64 ((L).tm).stt, .int .i64 ((L).tm).ev, .int .i64 ((L).tm).ct, .int .i64 ((L).tm).ba, .int .i64 ((L).tm).mo, .int .i64 ((L).tm).pen, .int .i64 ((L).tm).fe, .string ((L).tm).cal, .string ((L).tm).cur, .slice da1 (L).ds.length dk1, .slice ca1 (L).cs.length ck1] 27 := Blk_setRow_same Bk.Blk.nw10
          have cw6 := bl2 hX cw5
          replace k0 := k0.later hX
          replace ka := ka.later hX
          replace hd := hd.later hX
          replace hd1 := hd1.later hX
          replace hc1 := hc1.later hX
          replace hp1 := hp1.later hX
          clear hX cw5
          generalize ((w5.alloc (.cells #[.int .i64 0, .int .i64 0, .int .i64 0, .int .i64 0, .int .i64 0, .int .i64 0, .int .i64 0, .int .i64 0, .int .i64 0, .int .i64 0, .int .i64 0, .int .i64 0, .int .i64 0, .int .i64 0, .int .i64 0, .int .i64 0, .int .i64 0, .int .i64 0, .int .i64 0, .int .i64 0, .int .i64 0, .string { data := #[] }, .string { data := #[] }, .slice none 0 0, .slice none 0 0] 27)).setRow w5.heap.size #[.int .i64 (L).id, .int .i64 (L).ac, .int .i64 (L).st, .int .i64 (L).pp, .int .i64 (L).pi, .int .i64 (L).fee, .int .i64 (L).pen, .int .i64 (L).chg, .int .i64 (L).prov, .int .i64 (L).loss, .int .i64 (L).rcv, .int .i64 ((L).tm).me, .int .i64 ((L).tm).pr, .int .i64 ((L).tm).ppm, .int .i64 ((L).tm).stt, .int .i64 ((L).tm).ev, .int .i64 ((L).tm).ct, .int .i64 ((L).tm).ba, .int .i64 ((L).tm).mo, .int .i64 ((L).tm).pen, .int .i64 ((L).tm).fe, .string ((L).tm).cal, .string ((L).tm).cur, .slice da1 (L).ds.length dk1, .slice ca1 (L).cs.length ck1]) = w6 at *
          generalize w5.heap.size = gb5 at *
          have F := Lib.hid hF
          clear hF
          have l0 := ka.c0
          have l1 := ka.c1
          have l2 := ka.c2
          go_wp2_with (first | (refine wpList_load_row rfl 27 _ rfl _ rfl _ _ _ _ k0 Tryd.underlying27 rfl (by kernel_rfl) ?_) | (refine load_guarded 27 _ rfl rfl _ rfl _ _ _ _ k0 Tryd.underlying27 rfl (by kernel_rfl) ?_) | (refine wpList_load_row rfl 27 _ rfl _ rfl _ _ _ _ k5 Tryd.underlying27 rfl (by kernel_rfl) ?_) | (refine load_guarded 27 _ rfl rfl _ rfl _ _ _ _ k5 Tryd.underlying27 rfl (by kernel_rfl) ?_))
          refine (fee_any l da ca dk ck a _ (HST.out _ cw6) (by have := F.out.a1; unfold Wm.I64; omega) (fe_i64 ho)).mono ?_
          rintro e w7 ⟨rfl, hb⟩
          have cw7 := bl2 hb cw6
          replace k0 := k0.later hb
          replace ka := ka.later hb
          replace hd := hd.later hb
          replace hd1 := hd1.later hb
          replace hc1 := hc1.later hb
          replace hp1 := hp1.later hb
          replace k5 := k5.later hb
          clear hb cw6
          clear l0 l1 l2
          rw [F.out.fe, F.out.fz]
          have hg := F.out.g
          have ha1 := F.out.a1
          have s1 : IntKind.i64.wrap (a - (a - pd)) = pd := by rw [IntKind.wrap_i64]; omega
          have l0 := ka.c0
          go_upto_region 8 with fail
          clear l0 s1
          go_upto_region 10 with fail
          have l23 := k0.c23
          go_loopg [13, 15] l.ds.length (SuR w7 l.ds)
          case atStart => exact ⟨0, by omega, rfl, by rw [sumTo_zero], rfl⟩
          case round =>
            obtain ⟨i, hi, rfl, rfl, rfl⟩ := hrel
            by_cases hlt : i < l.ds.length
            · obtain ⟨b, off, rfl, hc⟩ := hd.row.mid denc_len (by omega)
              have q1 : w7.cell? ⟨b, off + i * 4 + 2, none⟩ = some (.int .i64 (l.ds[i]!).pr) := hc i hlt 2 _ rfl
              have hs := sumTo_succ hlt
              have HS := Lib.hid hs
              clear hc hs
              generalize sumTo l.ds i = s at *
              generalize (l.ds[i]!).pr = x at *
              go_wp2_with fail
              go_roundg (gk - 1)
              case measure => omega
              case rel => exact ⟨i + 1, by omega, by go_num, by rw [HS.out], rfl⟩
            · have hie := sumTo_all l.ds (i := i) (by omega)
              have HE13 := Lib.hid hie
              clear hie
              generalize sumTo l.ds i = s13 at *
              go_wp2_with fail
              clear l23
              have l23' := k5.c23
              have hdn := F.out.dn
              go_loopg [14, 16] L.ds.length (SuR w7 L.ds)
              case atStart => exact ⟨0, by omega, rfl, by rw [sumTo_zero], rfl⟩
              case round =>
                obtain ⟨i, hi, rfl, rfl, rfl⟩ := hrel
                by_cases hlt : i < L.ds.length
                · obtain ⟨b, off, rfl, hc⟩ := hd1.row.mid denc_len (by omega)
                  have q1 : w7.cell? ⟨b, off + i * 4 + 2, none⟩ = some (.int .i64 (L.ds[i]!).pr) := hc i hlt 2 _ rfl
                  have hs := sumTo_succ hlt
                  have HS := Lib.hid hs
                  clear hc hs
                  generalize sumTo L.ds i = s at *
                  generalize (L.ds[i]!).pr = x at *
                  go_wp2_with fail
                  go_roundg (gk - 1)
                  case measure => omega
                  case rel => exact ⟨i + 1, by omega, by go_num, by rw [HS.out], rfl⟩
                · have hie := sumTo_all L.ds (i := i) (by omega)
                  have HE14 := Lib.hid hie
                  clear hie
                  generalize sumTo L.ds i = s14 at *
                  have HX1 := Lib.hid (fun W (hW : SB w7 W) => first35_any l da ca dk ck day W (hd.later hW) hor (by omega))
                  have HX2 := Lib.hid (fun W (hW : SB w7 W) => first35_any L da1 ca1 dk1 ck1 day W (hd1.later hW) F.out.or (by have := F.out.dn; omega))
                  rw [F.out.q1] at HX1
                  rw [F.out.q2] at HX2
                  have hS0 : SB w7 w7.drew := (Below.refl _ _).drew
                  go_upto_region 17 with fail
                  clear l23'
                  refine wp_region_held_drew (S := SB w7) (by kernel_rfl) hS0 (fun hS => ?_)
                  clear hS0
                  refine take_at 0 (by decide) (by kernel_rfl) (by kernel_rfl) (by kernel_rfl) (fun _ _ _ h => h) hS (yields_load_row (by rfl) 27 (.tmp 3) rfl w.heap.size rfl _ _ _ _ (fun W hW => (k0.later hW)) Tryd.underlying27 rfl (by kernel_rfl)) ?_
                  simp only [z0, z1, Act.put, z3, z4, z5]
                  refine tk 1 (by decide) ?_ hS (by kernel_rfl) (by kernel_rfl) (by kernel_rfl) (by rfl) (fun _ _ _ h => h) ?_ ?_
                  rotate_left
                  · intro W hW
                    clear hW
                    simp only [z0, z1]
                    go_simp
                    first | done | with_reducible rfl
                  simp only [z0, z1, Act.put, z3, z4, z5]
                  refine take_at 4 (by decide) (by kernel_rfl) (by kernel_rfl) (by kernel_rfl) (fun _ _ _ h => h) hS (yields_load_row (by rfl) 27 (.tmp 7) rfl gb5 rfl _ _ _ _ (fun W hW => (k5.later hW)) Tryd.underlying27 rfl (by kernel_rfl)) ?_
                  simp only [z0, z1, Act.put, z3, z4, z5]
                  refine tk 5 (by decide) ?_ hS (by kernel_rfl) (by kernel_rfl) (by kernel_rfl) (by rfl) (fun _ _ _ h => h) ?_ ?_
                  rotate_left
                  · intro W hW
                    clear hW
                    simp only [z0, z1]
                    go_simp
                    first | done | with_reducible rfl
                  simp only [z0, z1, Act.put, z3, z4, z5]
                  refine tk 2 (by decide) ?_ hS (by kernel_rfl) (by kernel_rfl) (by kernel_rfl) (by rfl) (fun _ _ _ h => h) ?_ ?_
                  rotate_left
                  · intro W hW
                    have q := (ka.later hW).c1
                    clear hW
                    simp only [z0, z1]
                    go_simp
                    first | done | with_reducible rfl
                  simp only [z0, z1, Act.put, z3, z4, z5]
                  refine tk 6 (by decide) ?_ hS (by kernel_rfl) (by kernel_rfl) (by kernel_rfl) (by rfl) (fun _ _ _ h => h) ?_ ?_
                  rotate_left
                  · intro W hW
                    have q := (ka.later hW).c1
                    clear hW
                    simp only [z0, z1]
                    go_simp
                    first | done | with_reducible rfl
                  simp only [z0, z1, Act.put, z3, z4, z5]
                  refine call_at 3 (by decide) (Pi := (fun v _ => v = .int .i64 (k : Int))) (by kernel_rfl) (by rfl) (by simp only [z0, z1]; go_simp; first | done | rfl | exact ⟨rfl, rfl⟩) (call_one SB.mono hS (HX1.out _ hS)) ?_
                  clear hS
                  rintro w8 u hS rfl
                  simp only [z0, z1, Act.put, z3, z4, z5]
                  refine call_at 7 (by decide) (Pi := (fun v _ => v = .int .i64 ((k + 1 : Nat) : Int))) (by kernel_rfl) (by rfl) (by simp only [z0, z1]; go_simp; first | done | rfl | exact ⟨rfl, rfl⟩) (call_one SB.mono hS (HX2.out _ hS)) ?_
                  clear hS
                  rintro w9 u hS rfl
                  simp only [z0, z1, Act.put, z3, z4, z5]
                  refine tk 8 (by decide) ?_ hS (by kernel_rfl) (by kernel_rfl) (by kernel_rfl) (by rfl) (fun _ _ _ h => h) ?_ ?_
                  rotate_left
                  · intro W hW
                    clear hW
                    simp only [z0, z1]
                    go_simp
                    first | done | with_reducible rfl
                  simp only [z0, z1, Act.put, z3, z4, z5]
                  refine tk 9 (by decide) ?_ hS (by kernel_rfl) (by kernel_rfl) (by kernel_rfl) (by rfl) (fun _ _ _ h => h) ?_ ?_
                  rotate_left
                  · intro W hW
                    clear hW
                    simp only [z0, z1]
                    go_simp
                    first | done | with_reducible rfl
                  simp only [z0, z1, Act.put, z3, z4, z5]
                  refine wpAnyH_done (by kernel_rfl) ?_ _
                  replace k0 := k0.later hS
                  replace ka := ka.later hS
                  replace hd := hd.later hS
                  replace hd1 := hd1.later hS
                  replace hc1 := hc1.later hS
                  replace hp1 := hp1.later hS
                  replace k5 := k5.later hS
                  have cw9 := bl2 hS cw7
                  clear hS cw7 HX1 HX2
                  have s2 : IntKind.i64.wrap ((l.ds.length : Int) - (k : Int)) = (n : Int) := by rw [IntKind.wrap_i64]; have := F.out.ln; have := ho.n2; omega
                  have s3 : IntKind.i64.wrap ((L.ds.length : Int) - ((k : Int) + 1)) = (m : Int) := by rw [IntKind.wrap_i64]; have := F.out.len; have := F.out.dn; omega
                  have s3' : IntKind.i64.wrap ((L.ds.length : Int) - ((k + 1 : Nat) : Int)) = (m : Int) := by rw [IntKind.wrap_i64]; have := F.out.len; have := F.out.dn; omega
                  have hS0 : SB w9 w9.drew := (Below.refl _ _).drew
                  go_upto_region 18 with fail
                  refine wp_region_held_drew (S := SB w9) (by kernel_rfl) hS0 (fun hS => ?_)
                  clear hS0
                  refine tk 0 (by decide) ?_ hS (by kernel_rfl) (by kernel_rfl) (by kernel_rfl) (by rfl) (fun _ _ _ h => h) ?_ ?_
                  rotate_left
                  · intro W hW
                    clear hW
                    simp only [z0, z1]
                    go_simp
                    first | done | with_reducible rfl
                  simp only [z0, z1, Act.put, z3, z4, z5]
                  refine tk 3 (by decide) ?_ hS (by kernel_rfl) (by kernel_rfl) (by kernel_rfl) (by rfl) (fun _ _ _ h => h) ?_ ?_
                  rotate_left
                  · intro W hW
                    clear hW
                    simp only [z0, z1]
                    go_simp
                    first | done | with_reducible rfl
                  simp only [z0, z1, Act.put, z3, z4, z5]
                  refine tk 5 (by decide) ?_ hS (by kernel_rfl) (by kernel_rfl) (by kernel_rfl) (by rfl) (fun _ _ _ h => h) ?_ ?_
                  rotate_left
                  · intro W hW
                    clear hW
                    simp only [z0, z1]
                    go_simp
                    first | done | with_reducible rfl
                  simp only [z0, z1, Act.put, z3, z4, z5]
                  refine tk 8 (by decide) ?_ hS (by kernel_rfl) (by kernel_rfl) (by kernel_rfl) (by rfl) (fun _ _ _ h => h) ?_ ?_
                  rotate_left
                  · intro W hW
                    clear hW
                    simp only [z0, z1]
                    go_simp
                    first | done | with_reducible rfl
                  simp only [z0, z1, Act.put, z3, z4, z5]
                  refine tk 1 (by decide) ?_ hS (by kernel_rfl) (by kernel_rfl) (by kernel_rfl) (by rfl) (fun _ _ _ h => h) ?_ ?_
                  rotate_left
                  · intro W hW
                    have q := (k0.later hW).c23
                    clear hW
                    simp only [z0, z1]
                    go_simp
                    first | done | with_reducible rfl
                  simp only [z0, z1, Act.put, z3, z4, z5]
                  refine tk 2 (by decide) ?_ hS (by kernel_rfl) (by kernel_rfl) (by kernel_rfl) (by rfl) (fun _ _ _ h => h) ?_ ?_
                  rotate_left
                  · intro W hW
                    clear hW
                    simp only [z0, z1]
                    go_simp
                    first | done | with_reducible rfl
                  simp only [z0, z1, Act.put, z3, z4, z5]
                  refine tk 4 (by decide) ?_ hS (by kernel_rfl) (by kernel_rfl) (by kernel_rfl) (by rfl) (fun _ _ _ h => h) ?_ ?_
                  rotate_left
                  · intro W hW
                    clear hW
                    simp only [z0, z1]
                    go_simp
                    first | done | with_reducible rfl
                  simp only [z0, z1, Act.put, z3, z4, z5]
                  refine tk 6 (by decide) ?_ hS (by kernel_rfl) (by kernel_rfl) (by kernel_rfl) (by rfl) (fun _ _ _ h => h) ?_ ?_
                  rotate_left
                  · intro W hW
                    have q := (k5.later hW).c23
                    clear hW
                    simp only [z0, z1]
                    go_simp
                    first | done | with_reducible rfl
                  simp only [z0, z1, Act.put, z3, z4, z5]
                  refine tk 7 (by decide) ?_ hS (by kernel_rfl) (by kernel_rfl) (by kernel_rfl) (by rfl) (fun _ _ _ h => h) ?_ ?_
                  rotate_left
                  · intro W hW
                    clear hW
                    simp only [z0, z1]
                    go_simp
                    first | done | with_reducible rfl
                  simp only [z0, z1, Act.put, z3, z4, z5]
                  refine tk 9 (by decide) ?_ hS (by kernel_rfl) (by kernel_rfl) (by kernel_rfl) (by rfl) (fun _ _ _ h => h) ?_ ?_
                  rotate_left
                  · intro W hW
                    clear hW
                    simp only [z0, z1]
                    go_simp
                    first | done | with_reducible rfl
                  simp only [z0, z1, Act.put, z3, z4, z5]
                  refine tk 10 (by decide) ?_ hS (by kernel_rfl) (by kernel_rfl) (by kernel_rfl) (by rfl) (fun _ _ _ h => h) ?_ ?_
                  rotate_left
                  · intro W hW
                    clear hW
                    simp only [z0, z1]
                    go_simp
                    first | done | with_reducible rfl
                  simp only [z0, z1, Act.put, z3, z4, z5]
                  refine tk 11 (by decide) ?_ hS (by kernel_rfl) (by kernel_rfl) (by kernel_rfl) (by rfl) (fun _ _ _ h => h) ?_ ?_
                  rotate_left
                  · intro W hW
                    clear hW
                    simp only [z0, z1]
                    go_simp
                    first | done | with_reducible rfl
                  simp only [z0, z1, Act.put, z3, z4, z5]
                  refine wpAnyH_done (by kernel_rfl) ?_ _
                  replace k0 := k0.later hS
                  replace ka := ka.later hS
                  replace hd := hd.later hS
                  replace hd1 := hd1.later hS
                  replace hc1 := hc1.later hS
                  replace hp1 := hp1.later hS
                  replace k5 := k5.later hS
                  have cw10 := bl2 hS cw9
                  clear hS cw9 s2 s3 s3'
                  generalize w9.drew = w10 at *
                  rw [HE13.out, HE14.out, F.out.p]
                  generalize P l.ds = PP at *
                  have gP : (PP != PP) = false := bne_self_eq_false PP
                  have gA : (a != a) = false := bne_self_eq_false a
                  have hO3 := F.out.o3
                  have HO1 := Lib.hid (fun W (hW : SB w10 W) => Ln.rout_any l da ca dk ck W (hd.later hW) HDK.out)
                  have HO2 := Lib.hid (fun W (hW : SB w10 W) => Ln.rout_any L da1 ca1 dk1 ck1 W (hd1.later hW) F.out.dk)
                  have HCK := Lib.hid (fun W (hW : SB w10 W) => Ln.rcheck_any L da1 ca1 dk1 ck1 W (hd1.later hW) F.out.dk)
                  have HTO := Lib.hid (fun W (hW : SB w10 W) => (total35_any pa1 pc1 ps W (hp1.later hW) F.out.pn).mono (fun e w' h => (⟨h.1, by rw [← h.2]; exact Below.refl _ _⟩ : e = _ ∧ Below W.heap.size W w')))
                  rw [F.out.t] at HTO
                  rw [F.out.ok] at HCK
                  rw [F.out.o2] at HO2
                  rw [F.out.o1] at HO1
                  obtain ⟨O, hO⟩ : ∃ O, O = P l.ds - l.pp := ⟨_, rfl⟩
                  rw [← hO] at HO1 HO2 hO3
                  clear hO
                  have s4 : IntKind.i64.wrap (O - pd) = O - pd := by rw [IntKind.wrap_i64]; omega
                  have gO : ((O - pd) != (O - pd)) = false := bne_self_eq_false _
                  have s5 : IntKind.i64.wrap ((k : Int) + 1) = (k : Int) + 1 := by rw [IntKind.wrap_i64]; have := F.out.ln; have := ho.n2; omega
                  have gK : (((k : Int) + 1) != ((k : Int) + 1)) = false := bne_self_eq_false _
                  have hS0 : SB w10 w10.drew := (Below.refl _ _).drew
                  go_upto_region 19 with fail
                  refine wp_region_held_drew (S := SB w10) (by kernel_rfl) hS0 (fun hS => ?_)
                  clear hS0
                  refine tk 0 (by decide) ?_ hS (by kernel_rfl) (by kernel_rfl) (by kernel_rfl) (by rfl) (fun _ _ _ h => h) ?_ ?_
                  rotate_left
                  · intro W hW
                    clear hW
                    simp only [z0, z1]
                    go_simp
                    first | done | with_reducible rfl
                  simp only [z0, z1, Act.put, z3, z4, z5]
                  refine tk 1 (by decide) ?_ hS (by kernel_rfl) (by kernel_rfl) (by kernel_rfl) (by rfl) (fun _ _ _ h => h) ?_ ?_
                  rotate_left
                  · intro W hW
                    clear hW
                    simp only [z0, z1]
                    go_simp
                    first | done | with_reducible rfl
                  simp only [z0, z1, Act.put, z3, z4, z5]
                  refine tk 2 (by decide) ?_ hS (by kernel_rfl) (by kernel_rfl) (by kernel_rfl) (by rfl) (fun _ _ _ h => h) ?_ ?_
                  rotate_left
                  · intro W hW
                    clear hW
                    simp only [z0, z1]
                    go_simp
                    first | done | with_reducible rfl
                  simp only [z0, z1, Act.put, z3, z4, z5]
                  refine tk 3 (by decide) ?_ hS (by kernel_rfl) (by kernel_rfl) (by kernel_rfl) (by rfl) (fun _ _ _ h => h) ?_ ?_
                  rotate_left
                  · intro W hW
                    clear hW
                    simp only [z0, z1]
                    go_simp
                    first | done | with_reducible rfl
                  simp only [z0, z1, Act.put, z3, z4, z5]
                  refine tk 5 (by decide) ?_ hS (by kernel_rfl) (by kernel_rfl) (by kernel_rfl) (by rfl) (fun _ _ _ h => h) ?_ ?_
                  rotate_left
                  · intro W hW
                    clear hW
                    simp only [z0, z1]
                    go_simp
                    first | done | with_reducible rfl
                  simp only [z0, z1, Act.put, z3, z4, z5]
                  refine tk 6 (by decide) ?_ hS (by kernel_rfl) (by kernel_rfl) (by kernel_rfl) (by rfl) (fun _ _ _ h => h) ?_ ?_
                  rotate_left
                  · intro W hW
                    have q := (ka.later hW).c0
                    clear hW
                    simp only [z0, z1]
                    go_simp
                    first | done | with_reducible rfl
                  simp only [z0, z1, Act.put, z3, z4, z5]
                  refine call_at 4 (by decide) (Pi := (fun v _ => v = .int .i64 a)) (by kernel_rfl) (by rfl) (by simp only [z0, z1]; go_simp; first | done | rfl | exact ⟨rfl, rfl⟩) (call_one SB.mono hS (HTO.out _ hS)) ?_
                  clear hS
                  rintro w11 u hS rfl
                  simp only [z0, z1, Act.put, z3, z4, z5]
                  refine tk 7 (by decide) ?_ hS (by kernel_rfl) (by kernel_rfl) (by kernel_rfl) (by rfl) (fun _ _ _ h => h) ?_ ?_
                  rotate_left
                  · intro W hW
                    clear hW
                    simp only [z0, z1]
                    go_simp
                    first | done | with_reducible rfl
                  simp only [z0, z1, Act.put, z3, z4, z5]
                  refine tk 8 (by decide) ?_ hS (by kernel_rfl) (by kernel_rfl) (by kernel_rfl) (by rfl) (fun _ _ _ h => h) ?_ ?_
                  rotate_left
                  · intro W hW
                    clear hW
                    simp only [z0, z1]
                    go_simp
                    first | done | with_reducible rfl
                  simp only [z0, z1, Act.put, z3, z4, z5]
                  refine tk 9 (by decide) ?_ hS (by kernel_rfl) (by kernel_rfl) (by kernel_rfl) (by rfl) (fun _ _ _ h => h) ?_ ?_
                  rotate_left
                  · intro W hW
                    clear hW
                    simp only [z0, z1]
                    go_simp
                    first | done | with_reducible rfl
                  simp only [z0, z1, Act.put, z3, z4, z5]
                  refine tk 10 (by decide) ?_ hS (by kernel_rfl) (by kernel_rfl) (by kernel_rfl) (by rfl) (fun _ _ _ h => h) ?_ ?_
                  rotate_left
                  · intro W hW
                    clear hW
                    simp only [z0, z1]
                    go_simp
                    first | done | with_reducible rfl
                  simp only [z0, z1, Act.put, z3, z4, z5]
                  refine tk 11 (by decide) ?_ hS (by kernel_rfl) (by kernel_rfl) (by kernel_rfl) (by rfl) (fun _ _ _ h => h) ?_ ?_
                  rotate_left
                  · intro W hW
                    clear hW
                    simp only [z0, z1]
                    go_simp
                    first | done | with_reducible rfl
                  simp only [z0, z1, Act.put, z3, z4, z5]
                  refine tk 12 (by decide) ?_ hS (by kernel_rfl) (by kernel_rfl) (by kernel_rfl) (by rfl) (fun _ _ _ h => h) ?_ ?_
                  rotate_left
                  · intro W hW
                    clear hW
                    simp only [z0, z1]
                    go_simp
                    first | done | with_reducible rfl
                  simp only [z0, z1, Act.put, z3, z4, z5]
                  refine tk 13 (by decide) ?_ hS (by kernel_rfl) (by kernel_rfl) (by kernel_rfl) (by rfl) (fun _ _ _ h => h) ?_ ?_
                  rotate_left
                  · intro W hW
                    clear hW
                    simp only [z0, z1]
                    go_simp
                    first | done | with_reducible rfl
                  simp only [z0, z1, Act.put, z3, z4, z5]
                  refine tk 14 (by decide) ?_ hS (by kernel_rfl) (by kernel_rfl) (by kernel_rfl) (by rfl) (fun _ _ _ h => h) ?_ ?_
                  rotate_left
                  · intro W hW
                    clear hW
                    simp only [z0, z1]
                    go_simp
                    first | done | with_reducible rfl
                  simp only [z0, z1, Act.put, z3, z4, z5]
                  refine take_at 15 (by decide) (by kernel_rfl) (by kernel_rfl) (by kernel_rfl) (fun _ _ _ h => h) hS (yields_load_row (by rfl) 27 (.tmp 7) rfl gb5 rfl _ _ _ _ (fun W hW => (k5.later hW)) Tryd.underlying27 rfl (by kernel_rfl)) ?_
                  simp only [z0, z1, Act.put, z3, z4, z5]
                  refine take_at 17 (by decide) (by kernel_rfl) (by kernel_rfl) (by kernel_rfl) (fun _ _ _ h => h) hS (yields_load_row (by rfl) 27 (.tmp 3) rfl w.heap.size rfl _ _ _ _ (fun W hW => (k0.later hW)) Tryd.underlying27 rfl (by kernel_rfl)) ?_
                  simp only [z0, z1, Act.put, z3, z4, z5]
                  refine tk 19 (by decide) ?_ hS (by kernel_rfl) (by kernel_rfl) (by kernel_rfl) (by rfl) (fun _ _ _ h => h) ?_ ?_
                  rotate_left
                  · intro W hW
                    clear hW
                    simp only [z0, z1]
                    go_simp
                    first | done | with_reducible rfl
                  simp only [z0, z1, Act.put, z3, z4, z5]
                  refine call_at 16 (by decide) (Pi := (fun v _ => v = .int .i64 (O - pd))) (by kernel_rfl) (by rfl) (by simp only [z0, z1]; go_simp; first | done | rfl | exact ⟨rfl, rfl⟩) (call_one SB.mono hS (HO2.out _ hS)) ?_
                  clear hS
                  rintro w12 u hS rfl
                  simp only [z0, z1, Act.put, z3, z4, z5]
                  refine call_at 18 (by decide) (Pi := (fun v _ => v = .int .i64 O)) (by kernel_rfl) (by rfl) (by simp only [z0, z1]; go_simp; first | done | rfl | exact ⟨rfl, rfl⟩) (call_one SB.mono hS (HO1.out _ hS)) ?_
                  clear hS
                  rintro w13 u hS rfl
                  simp only [z0, z1, Act.put, z3, z4, z5]
                  refine tk 20 (by decide) ?_ hS (by kernel_rfl) (by kernel_rfl) (by kernel_rfl) (by rfl) (fun _ _ _ h => h) ?_ ?_
                  rotate_left
                  · intro W hW
                    clear hW
                    simp only [z0, z1]
                    go_simp
                    first | done | with_reducible rfl
                  simp only [z0, z1, Act.put, z3, z4, z5]
                  refine tk 21 (by decide) ?_ hS (by kernel_rfl) (by kernel_rfl) (by kernel_rfl) (by rfl) (fun _ _ _ h => h) ?_ ?_
                  rotate_left
                  · intro W hW
                    clear hW
                    simp only [z0, z1]
                    go_simp
                    first | done | with_reducible rfl
                  simp only [z0, z1, Act.put, z3, z4, z5]
                  refine tk 22 (by decide) ?_ hS (by kernel_rfl) (by kernel_rfl) (by kernel_rfl) (by rfl) (fun _ _ _ h => h) ?_ ?_
                  rotate_left
                  · intro W hW
                    clear hW
                    simp only [z0, z1]
                    go_simp
                    first | done | with_reducible rfl
                  simp only [z0, z1, Act.put, z3, z4, z5]
                  refine tk 23 (by decide) ?_ hS (by kernel_rfl) (by kernel_rfl) (by kernel_rfl) (by rfl) (fun _ _ _ h => h) ?_ ?_
                  rotate_left
                  · intro W hW
                    clear hW
                    simp only [z0, z1]
                    go_simp
                    first | done | with_reducible rfl
                  simp only [z0, z1, Act.put, z3, z4, z5]
                  refine take_at 24 (by decide) (by kernel_rfl) (by kernel_rfl) (by kernel_rfl) (fun _ _ _ h => h) hS (yields_load_row (by rfl) 27 (.tmp 7) rfl gb5 rfl _ _ _ _ (fun W hW => (k5.later hW)) Tryd.underlying27 rfl (by kernel_rfl)) ?_
                  simp only [z0, z1, Act.put, z3, z4, z5]
                  refine call_at 25 (by decide) (Pi := (fun v _ => v = .int .i64 0)) (by kernel_rfl) (by rfl) (by simp only [z0, z1]; go_simp; first | done | rfl | exact ⟨rfl, rfl⟩) (call_one SB.mono hS (HCK.out _ hS)) ?_
                  clear hS
                  rintro w14 u hS rfl
                  simp only [z0, z1, Act.put, z3, z4, z5]
                  refine tk 26 (by decide) ?_ hS (by kernel_rfl) (by kernel_rfl) (by kernel_rfl) (by rfl) (fun _ _ _ h => h) ?_ ?_
                  rotate_left
                  · intro W hW
                    clear hW
                    simp only [z0, z1]
                    go_simp
                    first | done | with_reducible rfl
                  simp only [z0, z1, Act.put, z3, z4, z5]
                  refine tk 27 (by decide) ?_ hS (by kernel_rfl) (by kernel_rfl) (by kernel_rfl) (by rfl) (fun _ _ _ h => h) ?_ ?_
                  rotate_left
                  · intro W hW
                    clear hW
                    simp only [z0, z1]
                    go_simp
                    first | done | with_reducible rfl
                  simp only [z0, z1, Act.put, z3, z4, z5]
                  refine tk 28 (by decide) ?_ hS (by kernel_rfl) (by kernel_rfl) (by kernel_rfl) (by rfl) (fun _ _ _ h => h) ?_ ?_
                  rotate_left
                  · intro W hW
                    clear hW
                    simp only [z0, z1]
                    go_simp
                    first | done | with_reducible rfl
                  simp only [z0, z1, Act.put, z3, z4, z5]
                  refine tk 29 (by decide) ?_ hS (by kernel_rfl) (by kernel_rfl) (by kernel_rfl) (by rfl) (fun _ _ _ h => h) ?_ ?_
                  rotate_left
                  · intro W hW
                    clear hW
                    simp only [z0, z1]
                    go_simp
                    first | done | with_reducible rfl
                  simp only [z0, z1, Act.put, z3, z4, z5]
                  refine tk 30 (by decide) ?_ hS (by kernel_rfl) (by kernel_rfl) (by kernel_rfl) (by rfl) (fun _ _ _ h => h) ?_ ?_
                  rotate_left
                  · intro W hW
                    clear hW
                    simp only [z0, z1]
                    go_simp
                    first | done | with_reducible rfl
                  simp only [z0, z1, Act.put, z3, z4, z5]
                  refine tk 31 (by decide) ?_ hS (by kernel_rfl) (by kernel_rfl) (by kernel_rfl) (by rfl) (fun _ _ _ h => h) ?_ ?_
                  rotate_left
                  · intro W hW
                    clear hW
                    simp only [z0, z1]
                    go_simp
                    first | done | with_reducible rfl
                  simp only [z0, z1, Act.put, z3, z4, z5]
                  refine tk 32 (by decide) ?_ hS (by kernel_rfl) (by kernel_rfl) (by kernel_rfl) (by rfl) (fun _ _ _ h => h) ?_ ?_
                  rotate_left
                  · intro W hW
                    clear hW
                    simp only [z0, z1]
                    go_simp
                    first | done | with_reducible rfl
                  simp only [z0, z1, Act.put, z3, z4, z5]
                  refine tk 33 (by decide) ?_ hS (by kernel_rfl) (by kernel_rfl) (by kernel_rfl) (by rfl) (fun _ _ _ h => h) ?_ ?_
                  rotate_left
                  · intro W hW
                    clear hW
                    simp only [z0, z1]
                    go_simp
                    first | done | with_reducible rfl
                  simp only [z0, z1, Act.put, z3, z4, z5]
                  refine wpAnyH_done (by kernel_rfl) ?_ _
                  replace k0 := k0.later hS
                  replace ka := ka.later hS
                  replace hd := hd.later hS
                  replace hd1 := hd1.later hS
                  replace hc1 := hc1.later hS
                  replace hp1 := hp1.later hS
                  replace k5 := k5.later hS
                  have cw14 := bl2 hS cw10
                  clear hS cw10 HO1 HO2 HCK HTO s4 s5 gO gK gP gA
                  generalize ((.agg #[.int .i64 (l).id, .int .i64 (l).ac, .int .i64 (l).st, .int .i64 (l).pp, .int .i64 (l).pi, .int .i64 (l).fee, .int .i64 (l).pen, .int .i64 (l).chg, .int .i64 (l).prov, .int .i64 (l).loss, .int .i64 (l).rcv, .int .i64 ((l).tm).me, .int .i64 ((l).tm).pr, .int .i64 ((l).tm).ppm, .int .i64 ((l).tm).stt, .int .i64 ((l).tm).ev, .int .i64 ((l).tm).ct, .int .i64 ((l).tm).ba, .int .i64 ((l).tm).mo, .int .i64 ((l).tm).pen, .int .i64 ((l).tm).fe, .string ((l).tm).cal, .string ((l).tm).cur, .slice da (l).ds.length dk, .slice ca (l).cs.length ck]) : Value) = vl
                  generalize ((.agg #[.int .i64 (L).id, .int .i64 (L).ac, .int .i64 (L).st, .int .i64 (L).pp, .int .i64 (L).pi, .int .i64 (L).fee, .int .i64 (L).pen, .int .i64 (L).chg, .int .i64 (L).prov, .int .i64 (L).loss, .int .i64 (L).rcv, .int .i64 ((L).tm).me, .int .i64 ((L).tm).pr, .int .i64 ((L).tm).ppm, .int .i64 ((L).tm).stt, .int .i64 ((L).tm).ev, .int .i64 ((L).tm).ct, .int .i64 ((L).tm).ba, .int .i64 ((L).tm).mo, .int .i64 ((L).tm).pen, .int .i64 ((L).tm).fe, .string ((L).tm).cal, .string ((L).tm).cur, .slice da1 (L).ds.length dk1, .slice ca1 (L).cs.length ck1]) : Value) = vL
                  generalize (Value.tuple #[vL, .slice pa1 ps.length pc1, .int .i64 0]) = vt
                  generalize (Value.agg #[.string c.nm, .slice wa c.wk.length wc, .slice ha c.hol.length hc]) = vc
                  have l0 := ka.c0
                  have l1 := ka.c1
                  have l2 := ka.c2
                  have hmi : (m : Int) ≤ (n : Int) := by have := F.out.mn; omega
                  clear hO3 hdn
                  rcases F.out.kp with rfl | rfl
                  · obtain rfl : m = n := F.out.eq rfl
                    clear hmi
                    go_upto_region 21 with fail
                    iterate 36 (first | go_skip | go_guarded | go_step | go_upon | go_back)
                    refine load_wp 27 (.tmp 7) rfl gb5 rfl _ _ _ _ k5 Tryd.underlying27 rfl (by kernel_rfl) ?_
                    go_wp2_with fail
                    refine (Ln.rowed_any L da1 ca1 dk1 ck1 day _ hd1).mono ?_
                    rintro e w15 ⟨a9, c9, rfl, _, _, hb⟩
                    have cw15 := bl2 hb cw14
                    replace k0 := k0.later hb
                    replace ka := ka.later hb
                    replace hd := hd.later hb
                    replace hd1 := hd1.later hb
                    replace hc1 := hc1.later hb
                    replace hp1 := hp1.later hb
                    replace k5 := k5.later hb
                    clear hb cw14
                    rw [F.out.ow]
                    clear l0 l1 l2
                    go_wp2_with fail
                    refine (Rd.rgood_yes pd _ (by unfold gd; omega)).mono ?_
                    rintro e w16 ⟨rfl, rfl⟩
                    go_wp2_with fail
                    refine (live35_any _ (HST.out _ cw15)).mono ?_
                    rintro e wz ⟨rfl, hb⟩
                    have cwz := bl2 hb cw15
                    clear hb
                    go_wp2_with fail
                    go_ret
                    exact ⟨rfl, cwz⟩
                  · go_upto_region 21 with fail
                    iterate 51 (first | go_skip | go_guarded | go_step | go_upon | go_back)
                    refine load_wp 27 (.tmp 7) rfl gb5 rfl _ _ _ _ k5 Tryd.underlying27 rfl (by kernel_rfl) ?_
                    go_wp2_with fail
                    refine (Ln.rowed_any L da1 ca1 dk1 ck1 day _ hd1).mono ?_
                    rintro e w15 ⟨a9, c9, rfl, _, _, hb⟩
                    have cw15 := bl2 hb cw14
                    replace k0 := k0.later hb
                    replace ka := ka.later hb
                    replace hd := hd.later hb
                    replace hd1 := hd1.later hb
                    replace hc1 := hc1.later hb
                    replace hp1 := hp1.later hb
                    replace k5 := k5.later hb
                    clear hb cw14
                    rw [F.out.ow]
                    clear l0 l1 l2
                    go_wp2_with fail
                    refine (Rd.rgood_yes pd _ (by unfold gd; omega)).mono ?_
                    rintro e w16 ⟨rfl, rfl⟩
                    go_wp2_with fail
                    refine (live35_any _ (HST.out _ cw15)).mono ?_
                    rintro e wz ⟨rfl, hb⟩
                    have cwz := bl2 hb cw15
                    clear hb
                    go_wp2_with fail
                    go_ret
                    exact ⟨rfl, cwz⟩
        · have HN := Lib.hid hz
          obtain ⟨da1, ca1, pa1, dk1, ck1, pc1, rfl, hb⟩ := pao_err hpa rfl hz
          clear hpa
          have cw5 := bl2 hb cw4
          clear hb cw4 k0 ka kc hd
          have gE : (paE l a day keep c != 0) = true := by simpa using hz
          clear hz
          generalize paE l a day keep c = E at gE ⊢
          go_upto_region 4 with (refine wpList_store_row rfl 27 _ _ rfl _ _ rfl rfl _ _ Bk.Blk.nw10 (by kernel_rfl) rfl (by simp [Value.oneCell', denc]) ?_)
          have hX : Below w5.heap.size w5 ((w5.alloc (.cells #[.int .i64 0, .int .i64 0, .int .i64 0, .int .i64 0, .int .i64 0, .int .i64 0, .int .i64 0, .int .i64 0, .int .i64 0, .int .i64 0, .int .i64 0, .int .i64 0, .int .i64 0, .int .i64 0, .int .i64 0, .int .i64 0, .int .i64 0, .int .i64 0, .int .i64 0, .int .i64 0, .int .i64 0, .string { data := #[] }, .string { data := #[] }, .slice none 0 0, .slice none 0 0] 27)).setRow w5.heap.size #[.int .i64 0, .int .i64 0, .int .i64 0, .int .i64 0, .int .i64 0, .int .i64 0, .int .i64 0, .int .i64 0, .int .i64 0, .int .i64 0, .int .i64 0, .int .i64 0, .int .i64 0, .int .i64 0, .int .i64 0, .int .i64 0, .int .i64 0, .int .i64 0, .int .i64 0, .int .i64 0, .int .i64 0, .string { data := #[] }, .string { data := #[] }, .slice da1 0 dk1, .slice ca1 0 ck1]) := Below_setRow ((Below.refl _ _).alloc (Nat.le_refl _) _) (Nat.le_refl _) _
          have k5 : Bk.Blk ((w5.alloc (.cells #[.int .i64 0, .int .i64 0, .int .i64 0, .int .i64 0, .int .i64 0, .int .i64 0, .int .i64 0, .int .i64 0, .int .i64 0, .int .i64 0, .int .i64 0, .int .i64 0, .int .i64 0, .int .i64 0, .int .i64 0, .int .i64 0, .int .i64 0, .int .i64 0, .int .i64 0, .int .i64 0, .int .i64 0, .string { data := #[] }, .string { data := #[] }, .slice none 0 0, .slice none 0 0] 27)).setRow w5.heap.size #[.int .i64 0, .int .i64 0, .int .i64 0, .int .i64 0, .int .i64 0, .int .i64 0, .int .i64 0, .int .i64 0, .int .i64 0, .int .i64 0, .int .i64 0, .int .i64 0, .int .i64 0, .int .i64 0, .int .i64 0, .int .i64 0, .int .i64 0, .int .i64 0, .int .i64 0, .int .i64 0, .int .i64 0, .string { data := #[] }, .string { data := #[] }, .slice da1 0 dk1, .slice ca1 0 ck1]) w5.heap.size #[.int .i64 0, .int .i64 0, .int .i64 0, .int .i64 0, .int .i64 0, .int .i64 0, .int .i64 0, .int .i64 0, .int .i64 0, .int .i64 0, .int .i64 0, .int .i64 0, .int .i64 0, .int .i64 0, .int .i64 0, .int .i64 0, .int .i64 0, .int .i64 0, .int .i64 0, .int .i64 0, .int .i64 0, .string { data := #[] }, .string { data := #[] }, .slice da1 0 dk1, .slice ca1 0 ck1] 27 := Blk_setRow_same Bk.Blk.nw10
          have cw6 := bl2 hX cw5
          clear hX cw5
          generalize ((w5.alloc (.cells #[.int .i64 0, .int .i64 0, .int .i64 0, .int .i64 0, .int .i64 0, .int .i64 0, .int .i64 0, .int .i64 0, .int .i64 0, .int .i64 0, .int .i64 0, .int .i64 0, .int .i64 0, .int .i64 0, .int .i64 0, .int .i64 0, .int .i64 0, .int .i64 0, .int .i64 0, .int .i64 0, .int .i64 0, .string { data := #[] }, .string { data := #[] }, .slice none 0 0, .slice none 0 0] 27)).setRow w5.heap.size #[.int .i64 0, .int .i64 0, .int .i64 0, .int .i64 0, .int .i64 0, .int .i64 0, .int .i64 0, .int .i64 0, .int .i64 0, .int .i64 0, .int .i64 0, .int .i64 0, .int .i64 0, .int .i64 0, .int .i64 0, .int .i64 0, .int .i64 0, .int .i64 0, .int .i64 0, .int .i64 0, .int .i64 0, .string { data := #[] }, .string { data := #[] }, .slice da1 0 dk1, .slice ca1 0 ck1]) = w6 at *
          generalize w5.heap.size = gb5 at *
          go_wp2_with (first | (refine wpList_load_row rfl 27 _ rfl _ rfl _ _ _ _ k5 Tryd.underlying27 rfl (by kernel_rfl) ?_) | (refine load_guarded 27 _ rfl rfl _ rfl _ _ _ _ k5 Tryd.underlying27 rfl (by kernel_rfl) ?_))
          refine (same_z da1 ca1 dk1 ck1 _).mono ?_
          rintro e w7 ⟨rfl, hb⟩
          have cw7 := bl2 hb cw6
          clear hb cw6
          go_wp2_with fail
          refine (live35_any _ (HST.out _ cw7)).mono ?_
          rintro e wz ⟨rfl, hb⟩
          have cwz := bl2 hb cw7
          clear hb
          go_wp2_with fail
          go_ret
          exact ⟨rfl, cwz⟩
      · have g1 : (chk l != 0) = true := by simpa using hk0
        clear hk0
        generalize chk l = E at g1 ⊢
        go_wp2_with fail
        refine (live35_any _ (HST.out _ cw4)).mono ?_
        rintro e wz ⟨rfl, hb⟩
        have cwz := bl2 hb cw4
        clear hb
        go_wp2_with fail
        go_ret
        exact ⟨rfl, cwz⟩
    · go_wp2_with fail
      refine (live35_any _ (HST.out _ cw3)).mono ?_
      rintro e wz ⟨rfl, hb⟩
      have cwz := bl2 hb cw3
      clear hb
      go_wp2_with fail
      go_ret
      exact ⟨rfl, cwz⟩
  · go_wp2_with fail
    refine (live35_any _ (HST.out _ cw2)).mono ?_
    rintro e wz ⟨rfl, hb⟩
    have cwz := bl2 hb cw2
    clear hb
    go_wp2_with fail
    go_ret
    exact ⟨rfl, cwz⟩
end Go.Proofs.YtaanicginfjgdaaDoor.Pp
