/-
  PrepaySettles: its walk.
-/
import Derived.Test.YtaanicginfjgdaaDoorPqa
import Derived.Test.YtaanicginfjgdaaDoorLr4
namespace Go.Proofs.YtaanicginfjgdaaDoor.Pp
open Go Go.RowKit
open Go.Proofs.YtaanicginfjgdaaDoor
open Go.Proofs.YtaanicginfjgdaaDoor.Ln (Tm Ch Du Lo Pa sum prs its P I due chk Ok ok_iff wrap_in wrap_add powed zLo LoIn DuesIn RowIn OwnR denc denc_len cenc cenc_len penc penc_len tenc flat flat_len Dok dues_of_row bl2 SB SB.mono SQ SQ.mono take_at one_at two_at call_at call_wp call_one call_pv value_wp yields_load_row Blk_setRow_same Blk_setRow_ne Below_setRow dues_setRow row_row one25 load_guarded results2_cell dues_lt rowc_lt rangeAt_later tk ts z0 z1 z3 z4 z5)
open Go.Proofs.YtaanicginfjgdaaDoor.Rd (gd pcV pcE Stp)
open Go.Proofs.YtaanicginfjgdaaDoor.Kl (Cl CalIn skE)
set_option linter.unusedSimpArgs false
set_option linter.unusedVariables false
set_option maxRecDepth 100000

structure FuF (L : Lo) (ps : List Pa) (N : Int) : Prop where
  ok : chk L = 0
  st : L.st = 2
  out : wrap64 (P L.ds - L.pp) = 0
  ow : ∀ on, powed L on = []
  dk : Dok L.ds
  t : totW ps = N
  n : ps.length ≤ 100000
  dn : L.ds.length ≤ 100000
theorem fu_facts {l : Lo} {day : Int} (h : fuE l day = 0) : FuF (fuO l day) (fuQ l day) (qtV l day) := by
  have hp := fu_parts h
  have hq := qt_parts hp.1
  have hk := full_ok h
  have ho := ok_iff.1 hk
  refine ⟨hk, rfl, ?_, fun on => full_owed h on, dok_all ho.each, ?_, ?_, by have := ho.n2; omega⟩
  · show wrap64 (P (fuD l day) - P (fuD l day)) = 0
    rw [Int.sub_self]
    unfold wrap64
    decide
  · unfold totW
    rw [full_tot, show qtV l day = qtN l day from if_pos hp.1]
    have := hq.2.2.2.2
    unfold gd at this
    unfold wrap64
    omega
  · have : (fuQ l day).length ≤ 4 := List.length_filter_le ..
    omega
theorem fuE_6 {l : Lo} {day : Int} (h : qtE l day = 0) (h2 : fuE l day ≠ 0) : fuE l day = 6 := by
  unfold fuE at h2 ⊢
  rw [if_neg (fun e => e h)] at h2 ⊢
  split
  · rfl
  · rename_i hn
    rw [if_neg hn] at h2
    exact absurd rfl h2
set_option maxHeartbeats 16000000 in
theorem settles35_walk (l : Lo) (da ca : Option Addr) (dk ck : Nat) (day later : Int) (_ : (Lit.int .i64 day).wf = true) (_ : (Lit.int .i64 later).wf = true) (w : World) (hl : LoIn w l da ca) (hk : Dok l.ds) (hdk : l.ds.length ≤ dk) (hS : Stp w) :
    Calls Tryd.prog 3 #[(.agg #[.int .i64 (l).id, .int .i64 (l).ac, .int .i64 (l).st, .int .i64 (l).pp, .int .i64 (l).pi, .int .i64 (l).fee, .int .i64 (l).pen, .int .i64 (l).chg, .int .i64 (l).prov, .int .i64 (l).loss, .int .i64 (l).rcv, .int .i64 ((l).tm).me, .int .i64 ((l).tm).pr, .int .i64 ((l).tm).ppm, .int .i64 ((l).tm).stt, .int .i64 ((l).tm).ev, .int .i64 ((l).tm).ct, .int .i64 ((l).tm).ba, .int .i64 ((l).tm).mo, .int .i64 ((l).tm).pen, .int .i64 ((l).tm).fe, .string ((l).tm).cal, .string ((l).tm).cur, .slice da (l).ds.length dk, .slice ca (l).cs.length ck]), .int .i64 day, .int .i64 later] w fun e w' => e = .returned (.bool true) ∧ Below w.heap.size w w' := by
  have cw1 : Below w.heap.size w (w.alloc (.cells #[.int .i64 (l).id, .int .i64 (l).ac, .int .i64 (l).st, .int .i64 (l).pp, .int .i64 (l).pi, .int .i64 (l).fee, .int .i64 (l).pen, .int .i64 (l).chg, .int .i64 (l).prov, .int .i64 (l).loss, .int .i64 (l).rcv, .int .i64 ((l).tm).me, .int .i64 ((l).tm).pr, .int .i64 ((l).tm).ppm, .int .i64 ((l).tm).stt, .int .i64 ((l).tm).ev, .int .i64 ((l).tm).ct, .int .i64 ((l).tm).ba, .int .i64 ((l).tm).mo, .int .i64 ((l).tm).pen, .int .i64 ((l).tm).fe, .string ((l).tm).cal, .string ((l).tm).cur, .slice da (l).ds.length dk, .slice ca (l).cs.length ck] 27)) := (Below.refl _ _).alloc (Nat.le_refl _) _
  have k0 : Bk.Blk (w.alloc (.cells #[.int .i64 (l).id, .int .i64 (l).ac, .int .i64 (l).st, .int .i64 (l).pp, .int .i64 (l).pi, .int .i64 (l).fee, .int .i64 (l).pen, .int .i64 (l).chg, .int .i64 (l).prov, .int .i64 (l).loss, .int .i64 (l).rcv, .int .i64 ((l).tm).me, .int .i64 ((l).tm).pr, .int .i64 ((l).tm).ppm, .int .i64 ((l).tm).stt, .int .i64 ((l).tm).ev, .int .i64 ((l).tm).ct, .int .i64 ((l).tm).ba, .int .i64 ((l).tm).mo, .int .i64 ((l).tm).pen, .int .i64 ((l).tm).fe, .string ((l).tm).cal, .string ((l).tm).cur, .slice da (l).ds.length dk, .slice ca (l).cs.length ck] 27)) w.heap.size #[.int .i64 (l).id, .int .i64 (l).ac, .int .i64 (l).st, .int .i64 (l).pp, .int .i64 (l).pi, .int .i64 (l).fee, .int .i64 (l).pen, .int .i64 (l).chg, .int .i64 (l).prov, .int .i64 (l).loss, .int .i64 (l).rcv, .int .i64 ((l).tm).me, .int .i64 ((l).tm).pr, .int .i64 ((l).tm).ppm, .int .i64 ((l).tm).stt, .int .i64 ((l).tm).ev, .int .i64 ((l).tm).ct, .int .i64 ((l).tm).ba, .int .i64 ((l).tm).mo, .int .i64 ((l).tm).pen, .int .i64 ((l).tm).fe, .string ((l).tm).cal, .string ((l).tm).cur, .slice da (l).ds.length dk, .slice ca (l).cs.length ck] 27 := Bk.Blk.nw10
  have HC := Lib.hid (fun W (hW : Below w.heap.size w W) => hl.c.later hW)
  have HI := Lib.hid (fun W (hW : Below w.heap.size w W) => hl.d.later hW)
  have HST := Lib.hid (fun W (hW : Below w.heap.size w W) => hS.of hW)
  clear hl hS
  go_enter Tryd.func3, Tryd.ntmps3
  go_upto_region 1 with fail
  generalize (w.alloc (.cells #[.int .i64 (l).id, .int .i64 (l).ac, .int .i64 (l).st, .int .i64 (l).pp, .int .i64 (l).pi, .int .i64 (l).fee, .int .i64 (l).pen, .int .i64 (l).chg, .int .i64 (l).prov, .int .i64 (l).loss, .int .i64 (l).rcv, .int .i64 ((l).tm).me, .int .i64 ((l).tm).pr, .int .i64 ((l).tm).ppm, .int .i64 ((l).tm).stt, .int .i64 ((l).tm).ev, .int .i64 ((l).tm).ct, .int .i64 ((l).tm).ba, .int .i64 ((l).tm).mo, .int .i64 ((l).tm).pen, .int .i64 ((l).tm).fe, .string ((l).tm).cal, .string ((l).tm).cur, .slice da (l).ds.length dk, .slice ca (l).cs.length ck] 27)) = w1 at *
  go_wp2_with (first | (refine wpList_load_row rfl 27 _ rfl _ rfl _ _ _ _ k0 Tryd.underlying27 rfl (by kernel_rfl) ?_) | (refine load_guarded 27 _ rfl rfl _ rfl _ _ _ _ k0 Tryd.underlying27 rfl (by kernel_rfl) ?_))
  refine (great35_any l da ca dk ck _ (HC.out _ cw1)).mono ?_
  rintro e w2 ⟨b, rfl, hbb, hb⟩
  have cw2 := bl2 hb cw1
  replace k0 := k0.later hb
  clear hb cw1
  cases b
  · have hbd := hbb rfl
    clear hbb
    have hd : DuesIn w2 da l.ds := dues_of_row (by omega) (HI.out _ cw2)
    go_wp2_with (first | (refine wpList_load_row rfl 27 _ rfl _ rfl _ _ _ _ k0 Tryd.underlying27 rfl (by kernel_rfl) ?_) | (refine load_guarded 27 _ rfl rfl _ rfl _ _ _ _ k0 Tryd.underlying27 rfl (by kernel_rfl) ?_))
    refine (quoteP_any l da ca dk ck day _ hd hdk (HST.out _ cw2)).mono ?_
    rintro e w3 ⟨rfl, hb⟩
    have cw3 := bl2 hb cw2
    replace k0 := k0.later hb
    replace hd := hd.later hb
    clear hb cw2
    go_upto_region 4 with fail
    go_wp2_with (first | (refine wpList_load_row rfl 27 _ rfl _ rfl _ _ _ _ k0 Tryd.underlying27 rfl (by kernel_rfl) ?_) | (refine load_guarded 27 _ rfl rfl _ rfl _ _ _ _ k0 Tryd.underlying27 rfl (by kernel_rfl) ?_))
    refine (full_any l da ca dk ck day _ hd (HC.out _ cw3) hdk (by omega) (HST.out _ cw3)).mono ?_
    intro e w4 hfu
    by_cases hq : qtE l day = 0
    · by_cases hf : fuE l day = 0
      · have hF := fu_facts hf
        rw [hq]
        obtain ⟨L, hL⟩ : ∃ L, L = fuO l day := ⟨_, rfl⟩
        obtain ⟨ps, hps⟩ : ∃ ps, ps = fuQ l day := ⟨_, rfl⟩
        obtain ⟨N, hN⟩ : ∃ N, N = qtV l day := ⟨_, rfl⟩
        rw [← hN]
        rw [← hL, ← hps, ← hN] at hF
        obtain ⟨da1, ca1, pa1, dk1, ck1, pc1, rfl, hd1, hc1, hp1, hb⟩ := fuo_good hfu hf hL hps
        clear hfu hf hL hps hN hq
        have cw4 := bl2 hb cw3
        clear hb cw3 k0 hd
        go_upto_region 5 with (refine wpList_store_row rfl 27 _ _ rfl _ _ rfl rfl _ _ Bk.Blk.nw10 (by kernel_rfl) rfl (by simp [Value.oneCell', denc]) ?_)
        have hX : Below w4.heap.size w4 ((w4.alloc (.cells #[.int .i64 0, .int .i64 0, .int .i64 0, .int .i64 0, .int .i64 0, .int .i64 0, .int .i64 0, .int .i64 0, .int .i64 0, .int .i64 0, .int .i64 0, .int .i64 0, .int .i64 0, .int .i64 0, .int .i64 0, .int .i64 0, .int .i64 0, .int .i64 0, .int .i64 0, .int .i64 0, .int .i64 0, .string { data := #[] }, .string { data := #[] }, .slice none 0 0, .slice none 0 0] 27)).setRow w4.heap.size #[.int .i64 (L).id, .int .i64 (L).ac, .int .i64 (L).st, .int .i64 (L).pp, .int .i64 (L).pi, .int .i64 (L).fee, .int .i64 (L).pen, .int .i64 (L).chg, .int .i64 (L).prov, .int .i64 (L).loss, .int .i64 (L).rcv, .int .i64 ((L).tm).me, .int .i64 ((L).tm).pr, .int .i64 ((L).tm).ppm, .int .i64 ((L).tm).stt, .int .i64 ((L).tm).ev, .int .i64 ((L).tm).ct, .int .i64 ((L).tm).ba, .int .i64 ((L).tm).mo, .int .i64 ((L).tm).pen, .int .i64 ((L).tm).fe, .string ((L).tm).cal, .string ((L).tm).cur, .slice da1 (L).ds.length dk1, .slice ca1 (L).cs.length ck1]) := Below_setRow ((Below.refl _ _).alloc (Nat.le_refl _) _) (Nat.le_refl _) _
        have k5 : Bk.Blk ((w4.alloc (.cells #[.int .i64 0, .int .i64 0, .int .i64 0, .int .i64 0, .int .i64 0, .int .i64 0, .int .i64 0, .int .i64 0, .int .i64 0, .int .i64 0, .int .i64 0, .int .i64 0, .int .i64 0, .int .i64 0, .int .i64 0, .int .i64 0, .int .i64 0, .int .i64 0, .int .i64 0, .int .i64 0, .int .i64 0, .string { data := #[] }, .string { data := #[] }, .slice none 0 0, .slice none 0 0] 27)).setRow w4.heap.size #[.int .i64 (L).id, .int .i64 (L).ac, .int .i64 (L).st, .int .i64 (L).pp, .int .i64 (L).pi, .int .i64 (L).fee, .int .i64 (L).pen, .int .i64 (L).chg, .int .i64 (L).prov, .int .i64 (L).loss, .int .i64 (L).rcv, .int .i64 ((L).tm).me, .int .i64 ((L).tm).pr, .int .i64 ((L).tm).ppm, .int .i64 ((L).tm).stt, .int .i64 ((L).tm).ev, .int .i64 ((L).tm).ct, .int .i64 ((L).tm).ba, .int .i64 ((L).tm).mo, .int .i64 ((L).tm).pen, .int .i64 ((L).tm).fe, .string ((L).tm).cal, .string ((L).tm).cur, .slice da1 (L).ds.length dk1, .slice ca1 (L).cs.length ck1]) w4.heap.size #[.int .i64 (L).id, .int .i64 (L).ac, .int .i64 (L).st, .int .i64 (L).pp, .int .i64 (L).pi, .int .i64 (L).fee, .int .i64 (L).pen, .int .i64 (L).chg, .int .i64 (L).prov, .int .i64 (L).loss, .int .i64 (L).rcv, .int .i64 ((L).tm).me, .int .i64 ((L).tm).pr, .int .i64 ((L).tm).ppm, .int .i64 ((L).tm).stt, .int .i64 ((L).tm).ev, .int .i64 ((L).tm).ct, .int .i64 ((L).tm).ba, .int .i64 ((L).tm).mo, .int .i64 ((L).tm).pen, .int .i64 ((L).tm).fe, .string ((L).tm).cal, .string ((L).tm).cur, .slice da1 (L).ds.length dk1, .slice ca1 (L).cs.length ck1] 27 := Blk_setRow_same Bk.Blk.nw10
        have cw5 := bl2 hX cw4
        replace hd1 := hd1.later hX
        replace hc1 := hc1.later hX
        replace hp1 := hp1.later hX
        clear hX cw4
        generalize ((w4.alloc (.cells #[.int .i64 0, .int .i64 0, .int .i64 0, .int .i64 0, .int .i64 0, .int .i64 0, .int .i64 0, .int .i64 0, .int .i64 0, .int .i64 0, .int .i64 0, .int .i64 0, .int .i64 0, .int .i64 0, .int .i64 0, .int .i64 0, .int .i64 0, .int .i64 0, .int .i64 0, .int .i64 0, .int .i64 0, .string { data := #[] }, .string { data := #[] }, .slice none 0 0, .slice none 0 0] 27)).setRow w4.heap.size #[.int .i64 (L).id, .int .i64 (L).ac, .int .i64 (L).st, .int .i64 (L).pp, .int .i64 (L).pi, .int .i64 (L).fee, .int .i64 (L).pen, .int .i64 (L).chg, .int .i64 (L).prov, .int .i64 (L).loss, .int .i64 (L).rcv, .int .i64 ((L).tm).me, .int .i64 ((L).tm).pr, .int .i64 ((L).tm).ppm, .int .i64 ((L).tm).stt, .int .i64 ((L).tm).ev, .int .i64 ((L).tm).ct, .int .i64 ((L).tm).ba, .int .i64 ((L).tm).mo, .int .i64 ((L).tm).pen, .int .i64 ((L).tm).fe, .string ((L).tm).cal, .string ((L).tm).cur, .slice da1 (L).ds.length dk1, .slice ca1 (L).cs.length ck1]) = w5 at *
        generalize w4.heap.size = gb5 at *
        have F := Lib.hid hF
        have hst := hF.st
        have gs : (L.st == 2) = true := by rw [hst]; rfl
        clear hF hst
        go_wp2_with fail
        refine (total35_any pa1 pc1 ps _ hp1 F.out.n).mono ?_
        rintro e w6 ⟨rfl, rfl⟩
        rw [F.out.t]
        have gN : (N == N) = true := beq_self_eq_true N
        go_wp2_with (first | (refine wpList_load_row rfl 27 _ rfl _ rfl _ _ _ _ k5 Tryd.underlying27 rfl (by kernel_rfl) ?_) | (refine load_guarded 27 _ rfl rfl _ rfl _ _ _ _ k5 Tryd.underlying27 rfl (by kernel_rfl) ?_))
        refine (Ln.rout_any L da1 ca1 dk1 ck1 _ hd1 F.out.dk).mono ?_
        rintro e w7 ⟨rfl, hb⟩
        have cw7 := bl2 hb cw5
        replace k5 := k5.later hb
        replace hd1 := hd1.later hb
        replace hc1 := hc1.later hb
        replace hp1 := hp1.later hb
        clear hb cw5
        rw [F.out.out]
        go_wp2_with (first | (refine wpList_load_row rfl 27 _ rfl _ rfl _ _ _ _ k5 Tryd.underlying27 rfl (by kernel_rfl) ?_) | (refine load_guarded 27 _ rfl rfl _ rfl _ _ _ _ k5 Tryd.underlying27 rfl (by kernel_rfl) ?_))
        refine (Ln.rowed_any L da1 ca1 dk1 ck1 later _ hd1).mono ?_
        rintro e w8 ⟨a9, c9, rfl, _, _, hb⟩
        have cw8 := bl2 hb cw7
        replace k5 := k5.later hb
        replace hd1 := hd1.later hb
        replace hc1 := hc1.later hb
        replace hp1 := hp1.later hb
        clear hb cw7
        rw [F.out.ow]
        go_wp2_with (first | (refine wpList_load_row rfl 27 _ rfl _ rfl _ _ _ _ k5 Tryd.underlying27 rfl (by kernel_rfl) ?_) | (refine load_guarded 27 _ rfl rfl _ rfl _ _ _ _ k5 Tryd.underlying27 rfl (by kernel_rfl) ?_))
        refine (Ln.rowed_any L da1 ca1 dk1 ck1 73048 _ hd1).mono ?_
        rintro e w9 ⟨a10, c10, rfl, _, _, hb⟩
        have cw9 := bl2 hb cw8
        replace k5 := k5.later hb
        replace hd1 := hd1.later hb
        replace hc1 := hc1.later hb
        replace hp1 := hp1.later hb
        clear hb cw8
        rw [F.out.ow]
        have q2 := k5.c2
        go_wp2_with (first | (refine wpList_load_row rfl 27 _ rfl _ rfl _ _ _ _ k5 Tryd.underlying27 rfl (by kernel_rfl) ?_) | (refine load_guarded 27 _ rfl rfl _ rfl _ _ _ _ k5 Tryd.underlying27 rfl (by kernel_rfl) ?_))
        refine (Ln.rcheck_any L da1 ca1 dk1 ck1 _ hd1 F.out.dk).mono ?_
        rintro e w10 ⟨rfl, hb⟩
        have cw10 := bl2 hb cw9
        clear hb cw9 q2
        rw [F.out.ok]
        go_wp2_with fail
        refine (live35_any _ (HST.out _ cw10)).mono ?_
        rintro e wz ⟨rfl, hb⟩
        have cwz := bl2 hb cw10
        clear hb
        go_wp2_with fail
        go_ret
        exact ⟨rfl, cwz⟩
      · have h6 := fuE_6 hq hf
        obtain ⟨da1, ca1, pa1, dk1, ck1, pc1, rfl, hb⟩ := fuo_err hfu h6 (by decide)
        clear hfu
        have cw4 := bl2 hb cw3
        clear hb cw3 k0 hd
        clear h6 hf
        rw [hq]
        clear hq
        generalize qtV l day = N at *
        go_upto_region 5 with (refine wpList_store_row rfl 27 _ _ rfl _ _ rfl rfl _ _ Bk.Blk.nw10 (by kernel_rfl) rfl (by simp [Value.oneCell', denc]) ?_)
        have hX : Below w4.heap.size w4 ((w4.alloc (.cells #[.int .i64 0, .int .i64 0, .int .i64 0, .int .i64 0, .int .i64 0, .int .i64 0, .int .i64 0, .int .i64 0, .int .i64 0, .int .i64 0, .int .i64 0, .int .i64 0, .int .i64 0, .int .i64 0, .int .i64 0, .int .i64 0, .int .i64 0, .int .i64 0, .int .i64 0, .int .i64 0, .int .i64 0, .string { data := #[] }, .string { data := #[] }, .slice none 0 0, .slice none 0 0] 27)).setRow w4.heap.size #[.int .i64 0, .int .i64 0, .int .i64 0, .int .i64 0, .int .i64 0, .int .i64 0, .int .i64 0, .int .i64 0, .int .i64 0, .int .i64 0, .int .i64 0, .int .i64 0, .int .i64 0, .int .i64 0, .int .i64 0, .int .i64 0, .int .i64 0, .int .i64 0, .int .i64 0, .int .i64 0, .int .i64 0, .string { data := #[] }, .string { data := #[] }, .slice da1 0 dk1, .slice ca1 0 ck1]) := Below_setRow ((Below.refl _ _).alloc (Nat.le_refl _) _) (Nat.le_refl _) _
        have k5 : Bk.Blk ((w4.alloc (.cells #[.int .i64 0, .int .i64 0, .int .i64 0, .int .i64 0, .int .i64 0, .int .i64 0, .int .i64 0, .int .i64 0, .int .i64 0, .int .i64 0, .int .i64 0, .int .i64 0, .int .i64 0, .int .i64 0, .int .i64 0, .int .i64 0, .int .i64 0, .int .i64 0, .int .i64 0, .int .i64 0, .int .i64 0, .string { data := #[] }, .string { data := #[] }, .slice none 0 0, .slice none 0 0] 27)).setRow w4.heap.size #[.int .i64 0, .int .i64 0, .int .i64 0, .int .i64 0, .int .i64 0, .int .i64 0, .int .i64 0, .int .i64 0, .int .i64 0, .int .i64 0, .int .i64 0, .int .i64 0, .int .i64 0, .int .i64 0, .int .i64 0, .int .i64 0, .int .i64 0, .int .i64 0, .int .i64 0, .int .i64 0, .int .i64 0, .string { data := #[] }, .string { data := #[] }, .slice da1 0 dk1, .slice ca1 0 ck1]) w4.heap.size #[.int .i64 0, .int .i64 0, .int .i64 0, .int .i64 0, .int .i64 0, .int .i64 0, .int .i64 0, .int .i64 0, .int .i64 0, .int .i64 0, .int .i64 0, .int .i64 0, .int .i64 0, .int .i64 0, .int .i64 0, .int .i64 0, .int .i64 0, .int .i64 0, .int .i64 0, .int .i64 0, .int .i64 0, .string { data := #[] }, .string { data := #[] }, .slice da1 0 dk1, .slice ca1 0 ck1] 27 := Blk_setRow_same Bk.Blk.nw10
        have cw5 := bl2 hX cw4
        clear hX cw4
        generalize ((w4.alloc (.cells #[.int .i64 0, .int .i64 0, .int .i64 0, .int .i64 0, .int .i64 0, .int .i64 0, .int .i64 0, .int .i64 0, .int .i64 0, .int .i64 0, .int .i64 0, .int .i64 0, .int .i64 0, .int .i64 0, .int .i64 0, .int .i64 0, .int .i64 0, .int .i64 0, .int .i64 0, .int .i64 0, .int .i64 0, .string { data := #[] }, .string { data := #[] }, .slice none 0 0, .slice none 0 0] 27)).setRow w4.heap.size #[.int .i64 0, .int .i64 0, .int .i64 0, .int .i64 0, .int .i64 0, .int .i64 0, .int .i64 0, .int .i64 0, .int .i64 0, .int .i64 0, .int .i64 0, .int .i64 0, .int .i64 0, .int .i64 0, .int .i64 0, .int .i64 0, .int .i64 0, .int .i64 0, .int .i64 0, .int .i64 0, .int .i64 0, .string { data := #[] }, .string { data := #[] }, .slice da1 0 dk1, .slice ca1 0 ck1]) = w5 at *
        generalize w4.heap.size = gb5 at *
        go_wp2_with (first | (refine wpList_load_row rfl 27 _ rfl _ rfl _ _ _ _ k5 Tryd.underlying27 rfl (by kernel_rfl) ?_) | (refine load_guarded 27 _ rfl rfl _ rfl _ _ _ _ k5 Tryd.underlying27 rfl (by kernel_rfl) ?_))
        refine (same_z da1 ca1 dk1 ck1 _).mono ?_
        rintro e w6 ⟨rfl, hb⟩
        have cw6 := bl2 hb cw5
        clear hb cw5
        go_wp2_with fail
        refine (live35_any _ (HST.out _ cw6)).mono ?_
        rintro e wz ⟨rfl, hb⟩
        have cwz := bl2 hb cw6
        clear hb
        go_wp2_with fail
        go_ret
        exact ⟨rfl, cwz⟩
    · have HQ := Lib.hid hq
      obtain ⟨da1, ca1, pa1, dk1, ck1, pc1, rfl, hb⟩ := fuo_err hfu (fuE_1 hq) hq
      clear hfu
      have cw4 := bl2 hb cw3
      clear hb cw3 k0 hd
      have gE : (qtE l day != 0) = true := by simpa using hq
      clear hq
      generalize qtE l day = E at gE ⊢
      generalize qtV l day = N at *
      go_upto_region 5 with (refine wpList_store_row rfl 27 _ _ rfl _ _ rfl rfl _ _ Bk.Blk.nw10 (by kernel_rfl) rfl (by simp [Value.oneCell', denc]) ?_)
      have hX : Below w4.heap.size w4 ((w4.alloc (.cells #[.int .i64 0, .int .i64 0, .int .i64 0, .int .i64 0, .int .i64 0, .int .i64 0, .int .i64 0, .int .i64 0, .int .i64 0, .int .i64 0, .int .i64 0, .int .i64 0, .int .i64 0, .int .i64 0, .int .i64 0, .int .i64 0, .int .i64 0, .int .i64 0, .int .i64 0, .int .i64 0, .int .i64 0, .string { data := #[] }, .string { data := #[] }, .slice none 0 0, .slice none 0 0] 27)).setRow w4.heap.size #[.int .i64 0, .int .i64 0, .int .i64 0, .int .i64 0, .int .i64 0, .int .i64 0, .int .i64 0, .int .i64 0, .int .i64 0, .int .i64 0, .int .i64 0, .int .i64 0, .int .i64 0, .int .i64 0, .int .i64 0, .int .i64 0, .int .i64 0, .int .i64 0, .int .i64 0, .int .i64 0, .int .i64 0, .string { data := #[] }, .string { data := #[] }, .slice da1 0 dk1, .slice ca1 0 ck1]) := Below_setRow ((Below.refl _ _).alloc (Nat.le_refl _) _) (Nat.le_refl _) _
      have k5 : Bk.Blk ((w4.alloc (.cells #[.int .i64 0, .int .i64 0, .int .i64 0, .int .i64 0, .int .i64 0, .int .i64 0, .int .i64 0, .int .i64 0, .int .i64 0, .int .i64 0, .int .i64 0, .int .i64 0, .int .i64 0, .int .i64 0, .int .i64 0, .int .i64 0, .int .i64 0, .int .i64 0, .int .i64 0, .int .i64 0, .int .i64 0, .string { data := #[] }, .string { data := #[] }, .slice none 0 0, .slice none 0 0] 27)).setRow w4.heap.size #[.int .i64 0, .int .i64 0, .int .i64 0, .int .i64 0, .int .i64 0, .int .i64 0, .int .i64 0, .int .i64 0, .int .i64 0, .int .i64 0, .int .i64 0, .int .i64 0, .int .i64 0, .int .i64 0, .int .i64 0, .int .i64 0, .int .i64 0, .int .i64 0, .int .i64 0, .int .i64 0, .int .i64 0, .string { data := #[] }, .string { data := #[] }, .slice da1 0 dk1, .slice ca1 0 ck1]) w4.heap.size #[.int .i64 0, .int .i64 0, .int .i64 0, .int .i64 0, .int .i64 0, .int .i64 0, .int .i64 0, .int .i64 0, .int .i64 0, .int .i64 0, .int .i64 0, .int .i64 0, .int .i64 0, .int .i64 0, .int .i64 0, .int .i64 0, .int .i64 0, .int .i64 0, .int .i64 0, .int .i64 0, .int .i64 0, .string { data := #[] }, .string { data := #[] }, .slice da1 0 dk1, .slice ca1 0 ck1] 27 := Blk_setRow_same Bk.Blk.nw10
      have cw5 := bl2 hX cw4
      clear hX cw4
      generalize ((w4.alloc (.cells #[.int .i64 0, .int .i64 0, .int .i64 0, .int .i64 0, .int .i64 0, .int .i64 0, .int .i64 0, .int .i64 0, .int .i64 0, .int .i64 0, .int .i64 0, .int .i64 0, .int .i64 0, .int .i64 0, .int .i64 0, .int .i64 0, .int .i64 0, .int .i64 0, .int .i64 0, .int .i64 0, .int .i64 0, .string { data := #[] }, .string { data := #[] }, .slice none 0 0, .slice none 0 0] 27)).setRow w4.heap.size #[.int .i64 0, .int .i64 0, .int .i64 0, .int .i64 0, .int .i64 0, .int .i64 0, .int .i64 0, .int .i64 0, .int .i64 0, .int .i64 0, .int .i64 0, .int .i64 0, .int .i64 0, .int .i64 0, .int .i64 0, .int .i64 0, .int .i64 0, .int .i64 0, .int .i64 0, .int .i64 0, .int .i64 0, .string { data := #[] }, .string { data := #[] }, .slice da1 0 dk1, .slice ca1 0 ck1]) = w5 at *
      generalize w4.heap.size = gb5 at *
      go_wp2_with (first | (refine wpList_load_row rfl 27 _ rfl _ rfl _ _ _ _ k5 Tryd.underlying27 rfl (by kernel_rfl) ?_) | (refine load_guarded 27 _ rfl rfl _ rfl _ _ _ _ k5 Tryd.underlying27 rfl (by kernel_rfl) ?_))
      refine (same_z da1 ca1 dk1 ck1 _).mono ?_
      rintro e w6 ⟨rfl, hb⟩
      have cw6 := bl2 hb cw5
      clear hb cw5
      go_wp2_with fail
      refine (live35_any _ (HST.out _ cw6)).mono ?_
      rintro e wz ⟨rfl, hb⟩
      have cwz := bl2 hb cw6
      clear hb
      go_wp2_with fail
      go_ret
      exact ⟨rfl, cwz⟩
  · go_wp2_with fail
    refine (live35_any _ (HST.out _ cw2)).mono ?_
    rintro e wz ⟨rfl, hb⟩
    have cwz := bl2 hb cw2
    clear hb
    go_wp2_with fail
    go_ret
    exact ⟨rfl, cwz⟩
end Go.Proofs.YtaanicginfjgdaaDoor.Pp
