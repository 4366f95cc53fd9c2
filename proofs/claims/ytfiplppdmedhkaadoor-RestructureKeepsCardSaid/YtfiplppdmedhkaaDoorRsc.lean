/-
  RestructureCapital, RestructureTerms: their walks.
  RestructureKeeps: its walk.
-/
import Derived.Test.YtfiplppdmedhkaaDoorRs7
import Derived.Test.YtfiplppdmedhkaaDoorLr4
namespace Go.Proofs.YtfiplppdmedhkaaDoor.Ln
open Go Go.RowKit
open Go.Proofs.YtfiplppdmedhkaaDoor
open Go.Proofs.YtfiplppdmedhkaaDoor.Kl (Cl CalIn skE skchk_any sk_ok blE blV bl_facts bl_len BlOut ls_inj cl0 hmB euB row_of_cells)
set_option linter.unusedSimpArgs false
set_option linter.unusedVariables false
set_option maxRecDepth 100000

set_option maxHeartbeats 16000000 in
theorem capital_walk (l : Lo) (da ca : Option Addr) (dk ck : Nat) (day : Int) (_ : (Lit.int .i64 day).wf = true) (w : World) (hl : LoIn w l da ca) (hk : Dok l.ds) (hS : Rd.Stp w) :
    Calls Tryd.prog 3 #[(.agg #[.int .i64 (l).id, .int .i64 (l).ac, .int .i64 (l).st, .int .i64 (l).pp, .int .i64 (l).pi, .int .i64 (l).fee, .int .i64 (l).pen, .int .i64 (l).chg, .int .i64 (l).prov, .int .i64 (l).loss, .int .i64 (l).rcv, .int .i64 ((l).tm).me, .int .i64 ((l).tm).pr, .int .i64 ((l).tm).ppm, .int .i64 ((l).tm).stt, .int .i64 ((l).tm).ev, .int .i64 ((l).tm).ct, .int .i64 ((l).tm).ba, .int .i64 ((l).tm).mo, .int .i64 ((l).tm).pen, .int .i64 ((l).tm).fe, .string ((l).tm).cal, .string ((l).tm).cur, .slice da (l).ds.length dk, .slice ca (l).cs.length ck]), .int .i64 day] w fun e w' => e = .returned (.bool true) ∧ Below w.heap.size w w' := by
  have cw1 : Below w.heap.size w (w.alloc (.cells #[.int .i64 (l).id, .int .i64 (l).ac, .int .i64 (l).st, .int .i64 (l).pp, .int .i64 (l).pi, .int .i64 (l).fee, .int .i64 (l).pen, .int .i64 (l).chg, .int .i64 (l).prov, .int .i64 (l).loss, .int .i64 (l).rcv, .int .i64 ((l).tm).me, .int .i64 ((l).tm).pr, .int .i64 ((l).tm).ppm, .int .i64 ((l).tm).stt, .int .i64 ((l).tm).ev, .int .i64 ((l).tm).ct, .int .i64 ((l).tm).ba, .int .i64 ((l).tm).mo, .int .i64 ((l).tm).pen, .int .i64 ((l).tm).fe, .string ((l).tm).cal, .string ((l).tm).cur, .slice da (l).ds.length dk, .slice ca (l).cs.length ck] 27)) := (Below.refl _ _).alloc (Nat.le_refl _) _
  have k0 : Bk.Blk (w.alloc (.cells #[.int .i64 (l).id, .int .i64 (l).ac, .int .i64 (l).st, .int .i64 (l).pp, .int .i64 (l).pi, .int .i64 (l).fee, .int .i64 (l).pen, .int .i64 (l).chg, .int .i64 (l).prov, .int .i64 (l).loss, .int .i64 (l).rcv, .int .i64 ((l).tm).me, .int .i64 ((l).tm).pr, .int .i64 ((l).tm).ppm, .int .i64 ((l).tm).stt, .int .i64 ((l).tm).ev, .int .i64 ((l).tm).ct, .int .i64 ((l).tm).ba, .int .i64 ((l).tm).mo, .int .i64 ((l).tm).pen, .int .i64 ((l).tm).fe, .string ((l).tm).cal, .string ((l).tm).cur, .slice da (l).ds.length dk, .slice ca (l).cs.length ck] 27)) w.heap.size #[.int .i64 (l).id, .int .i64 (l).ac, .int .i64 (l).st, .int .i64 (l).pp, .int .i64 (l).pi, .int .i64 (l).fee, .int .i64 (l).pen, .int .i64 (l).chg, .int .i64 (l).prov, .int .i64 (l).loss, .int .i64 (l).rcv, .int .i64 ((l).tm).me, .int .i64 ((l).tm).pr, .int .i64 ((l).tm).ppm, .int .i64 ((l).tm).stt, .int .i64 ((l).tm).ev, .int .i64 ((l).tm).ct, .int .i64 ((l).tm).ba, .int .i64 ((l).tm).mo, .int .i64 ((l).tm).pen, .int .i64 ((l).tm).fe, .string ((l).tm).cal, .string ((l).tm).cur, .slice da (l).ds.length dk, .slice ca (l).cs.length ck] 27 := Bk.Blk.nw10
  have hl1 : LoIn (w.alloc (.cells #[.int .i64 (l).id, .int .i64 (l).ac, .int .i64 (l).st, .int .i64 (l).pp, .int .i64 (l).pi, .int .i64 (l).fee, .int .i64 (l).pen, .int .i64 (l).chg, .int .i64 (l).prov, .int .i64 (l).loss, .int .i64 (l).rcv, .int .i64 ((l).tm).me, .int .i64 ((l).tm).pr, .int .i64 ((l).tm).ppm, .int .i64 ((l).tm).stt, .int .i64 ((l).tm).ev, .int .i64 ((l).tm).ct, .int .i64 ((l).tm).ba, .int .i64 ((l).tm).mo, .int .i64 ((l).tm).pen, .int .i64 ((l).tm).fe, .string ((l).tm).cal, .string ((l).tm).cur, .slice da (l).ds.length dk, .slice ca (l).cs.length ck] 27)) l da ca := hl.later cw1
  have HST := Lib.hid (fun W (hW : Below w.heap.size w W) => hS.of hW)
  clear hS hl
  go_enter Tryd.func3, Tryd.ntmps3
  go_upto_region 1 with fail
  generalize (w.alloc (.cells #[.int .i64 (l).id, .int .i64 (l).ac, .int .i64 (l).st, .int .i64 (l).pp, .int .i64 (l).pi, .int .i64 (l).fee, .int .i64 (l).pen, .int .i64 (l).chg, .int .i64 (l).prov, .int .i64 (l).loss, .int .i64 (l).rcv, .int .i64 ((l).tm).me, .int .i64 ((l).tm).pr, .int .i64 ((l).tm).ppm, .int .i64 ((l).tm).stt, .int .i64 ((l).tm).ev, .int .i64 ((l).tm).ct, .int .i64 ((l).tm).ba, .int .i64 ((l).tm).mo, .int .i64 ((l).tm).pen, .int .i64 ((l).tm).fe, .string ((l).tm).cal, .string ((l).tm).cur, .slice da (l).ds.length dk, .slice ca (l).cs.length ck] 27)) = w1 at *
  go_wp2_with (refine wpList_load_row rfl 27 _ rfl _ rfl _ _ _ _ (k0) Tryd.underlying27 rfl (by kernel_rfl) ?_)
  refine (few_any l da ca dk ck _).mono ?_
  rintro e w2 ⟨rfl, hb⟩
  replace k0 := k0.later hb
  replace hl1 := hl1.later hb
  have cw2 := bl2 hb cw1
  clear hb cw1
  cases hf : fewB l
  · clear hf
    go_wp2_with fail
    refine (lives36_any _ (HST.out _ cw2)).mono ?_
    rintro e wz ⟨rfl, hb⟩
    have cwz := bl2 hb cw2
    go_wp2_with fail
    go_ret
    exact ⟨rfl, cwz⟩
  · have hfew : l.ds.length ≤ 40 ∧ l.cs.length ≤ 70 := by unfold fewB at hf; simpa using hf
    have hd1 : DuesIn w2 da l.ds := dues_of_row (by omega) hl1.d
    clear hf
    go_wp2_with (first | (refine wpList_load_row rfl 27 _ rfl _ rfl _ _ _ _ (k0) Tryd.underlying27 rfl (by kernel_rfl) ?_) | (refine load_guarded 27 _ rfl rfl _ rfl _ _ _ _ (k0) Tryd.underlying27 rfl (by kernel_rfl) ?_))
    refine (rcheck_any l da ca dk ck _ hd1 hk).mono ?_
    rintro e w3 ⟨rfl, hb⟩
    replace k0 := k0.later hb
    replace hl1 := hl1.later hb
    replace hd1 := hd1.later hb
    have cw3 := bl2 hb cw2
    clear hb cw2
    by_cases he : chk l = 0
    · have g1 : (chk l != 0) = false := by simpa using he
      clear he
      generalize chk l = E0 at g1 ⊢
      go_wp2_with (refine wpList_load_row rfl 27 _ rfl _ rfl _ _ _ _ (k0) Tryd.underlying27 rfl (by kernel_rfl) ?_)
      clear g1
      refine (cap_any l da ca dk ck day _ hd1 hk (by omega)).mono ?_
      rintro e w4 ⟨rfl, hb⟩
      replace k0 := k0.later hb
      replace hl1 := hl1.later hb
      replace hd1 := hd1.later hb
      have cw4 := bl2 hb cw3
      clear hb cw3
      go_wp2_with (refine wpList_load_row rfl 27 _ rfl _ rfl _ _ _ _ (k0) Tryd.underlying27 rfl (by kernel_rfl) ?_)
      refine (rcap_any l da ca dk ck day _ hd1 hk (by omega)).mono ?_
      rintro e w5 ⟨rfl, hb⟩
      replace k0 := k0.later hb
      replace hl1 := hl1.later hb
      replace hd1 := hd1.later hb
      have cw5 := bl2 hb cw4
      clear hb cw4
      have g1 : (capV l day == capV l day) = true := beq_self_eq_true _
      have g2 : (capE l day == capE l day) = true := beq_self_eq_true _
      generalize capV l day = N at *
      generalize capE l day = E at *
      go_wp2_with fail
      refine (lives36_any _ (HST.out _ cw5)).mono ?_
      rintro e wz ⟨rfl, hb⟩
      have cwz := bl2 hb cw5
      go_wp2_with fail
      go_ret
      exact ⟨rfl, cwz⟩
    · have g1 : (chk l != 0) = true := by simpa using he
      clear he
      generalize chk l = E0 at g1 ⊢
      go_wp2_with fail
      refine (lives36_any _ (HST.out _ cw3)).mono ?_
      rintro e wz ⟨rfl, hb⟩
      have cwz := bl2 hb cw3
      go_wp2_with fail
      go_ret
      exact ⟨rfl, cwz⟩
set_option maxHeartbeats 16000000 in
theorem terms36_walk (l : Lo) (da ca : Option Addr) (dk ck : Nat) (day : Int) (_ : (Lit.int .i64 day).wf = true) (w : World) (hl : LoIn w l da ca) (hk : Dok l.ds) (hS : Rd.Stp w) :
    Calls Tryd.prog 4 #[(.agg #[.int .i64 (l).id, .int .i64 (l).ac, .int .i64 (l).st, .int .i64 (l).pp, .int .i64 (l).pi, .int .i64 (l).fee, .int .i64 (l).pen, .int .i64 (l).chg, .int .i64 (l).prov, .int .i64 (l).loss, .int .i64 (l).rcv, .int .i64 ((l).tm).me, .int .i64 ((l).tm).pr, .int .i64 ((l).tm).ppm, .int .i64 ((l).tm).stt, .int .i64 ((l).tm).ev, .int .i64 ((l).tm).ct, .int .i64 ((l).tm).ba, .int .i64 ((l).tm).mo, .int .i64 ((l).tm).pen, .int .i64 ((l).tm).fe, .string ((l).tm).cal, .string ((l).tm).cur, .slice da (l).ds.length dk, .slice ca (l).cs.length ck]), .int .i64 day] w fun e w' => e = .returned (.bool true) ∧ Below w.heap.size w w' := by
  have cw1 : Below w.heap.size w (w.alloc (.cells #[.int .i64 (l).id, .int .i64 (l).ac, .int .i64 (l).st, .int .i64 (l).pp, .int .i64 (l).pi, .int .i64 (l).fee, .int .i64 (l).pen, .int .i64 (l).chg, .int .i64 (l).prov, .int .i64 (l).loss, .int .i64 (l).rcv, .int .i64 ((l).tm).me, .int .i64 ((l).tm).pr, .int .i64 ((l).tm).ppm, .int .i64 ((l).tm).stt, .int .i64 ((l).tm).ev, .int .i64 ((l).tm).ct, .int .i64 ((l).tm).ba, .int .i64 ((l).tm).mo, .int .i64 ((l).tm).pen, .int .i64 ((l).tm).fe, .string ((l).tm).cal, .string ((l).tm).cur, .slice da (l).ds.length dk, .slice ca (l).cs.length ck] 27)) := (Below.refl _ _).alloc (Nat.le_refl _) _
  have k0 : Bk.Blk (w.alloc (.cells #[.int .i64 (l).id, .int .i64 (l).ac, .int .i64 (l).st, .int .i64 (l).pp, .int .i64 (l).pi, .int .i64 (l).fee, .int .i64 (l).pen, .int .i64 (l).chg, .int .i64 (l).prov, .int .i64 (l).loss, .int .i64 (l).rcv, .int .i64 ((l).tm).me, .int .i64 ((l).tm).pr, .int .i64 ((l).tm).ppm, .int .i64 ((l).tm).stt, .int .i64 ((l).tm).ev, .int .i64 ((l).tm).ct, .int .i64 ((l).tm).ba, .int .i64 ((l).tm).mo, .int .i64 ((l).tm).pen, .int .i64 ((l).tm).fe, .string ((l).tm).cal, .string ((l).tm).cur, .slice da (l).ds.length dk, .slice ca (l).cs.length ck] 27)) w.heap.size #[.int .i64 (l).id, .int .i64 (l).ac, .int .i64 (l).st, .int .i64 (l).pp, .int .i64 (l).pi, .int .i64 (l).fee, .int .i64 (l).pen, .int .i64 (l).chg, .int .i64 (l).prov, .int .i64 (l).loss, .int .i64 (l).rcv, .int .i64 ((l).tm).me, .int .i64 ((l).tm).pr, .int .i64 ((l).tm).ppm, .int .i64 ((l).tm).stt, .int .i64 ((l).tm).ev, .int .i64 ((l).tm).ct, .int .i64 ((l).tm).ba, .int .i64 ((l).tm).mo, .int .i64 ((l).tm).pen, .int .i64 ((l).tm).fe, .string ((l).tm).cal, .string ((l).tm).cur, .slice da (l).ds.length dk, .slice ca (l).cs.length ck] 27 := Bk.Blk.nw10
  have hl1 : LoIn (w.alloc (.cells #[.int .i64 (l).id, .int .i64 (l).ac, .int .i64 (l).st, .int .i64 (l).pp, .int .i64 (l).pi, .int .i64 (l).fee, .int .i64 (l).pen, .int .i64 (l).chg, .int .i64 (l).prov, .int .i64 (l).loss, .int .i64 (l).rcv, .int .i64 ((l).tm).me, .int .i64 ((l).tm).pr, .int .i64 ((l).tm).ppm, .int .i64 ((l).tm).stt, .int .i64 ((l).tm).ev, .int .i64 ((l).tm).ct, .int .i64 ((l).tm).ba, .int .i64 ((l).tm).mo, .int .i64 ((l).tm).pen, .int .i64 ((l).tm).fe, .string ((l).tm).cal, .string ((l).tm).cur, .slice da (l).ds.length dk, .slice ca (l).cs.length ck] 27)) l da ca := hl.later cw1
  have HST := Lib.hid (fun W (hW : Below w.heap.size w W) => hS.of hW)
  clear hS hl
  go_enter Tryd.func4, Tryd.ntmps4
  go_upto_region 1 with fail
  generalize (w.alloc (.cells #[.int .i64 (l).id, .int .i64 (l).ac, .int .i64 (l).st, .int .i64 (l).pp, .int .i64 (l).pi, .int .i64 (l).fee, .int .i64 (l).pen, .int .i64 (l).chg, .int .i64 (l).prov, .int .i64 (l).loss, .int .i64 (l).rcv, .int .i64 ((l).tm).me, .int .i64 ((l).tm).pr, .int .i64 ((l).tm).ppm, .int .i64 ((l).tm).stt, .int .i64 ((l).tm).ev, .int .i64 ((l).tm).ct, .int .i64 ((l).tm).ba, .int .i64 ((l).tm).mo, .int .i64 ((l).tm).pen, .int .i64 ((l).tm).fe, .string ((l).tm).cal, .string ((l).tm).cur, .slice da (l).ds.length dk, .slice ca (l).cs.length ck] 27)) = w1 at *
  have l24 := k0.c24
  by_cases h1 : 100 < l.cs.length
  · go_wp2_with fail
    refine (lives36_any _ (HST.out _ cw1)).mono ?_
    rintro e wz ⟨rfl, hb⟩
    have cwz := bl2 hb cw1
    go_wp2_with fail
    go_ret
    exact ⟨rfl, cwz⟩
  · have hrc := hl1.c
    obtain ⟨T, hT⟩ : ∃ T, T = tmOn l.tm l.cs day := ⟨_, rfl⟩
    obtain ⟨B, hB⟩ : ∃ B, B = chgsB l.cs := ⟨_, rfl⟩
    have HP := Lib.hid (fun W (hW : SB w1 W) => terms_on l da ca dk ck day W (hrc.later hW) (by omega))
    have HQ := Lib.hid (fun W (hW : SB w1 W) => rterms_on l da ca dk ck day W (hrc.later hW) (by omega))
    have HU := Lib.hid (fun W (hW : SB w1 W) => chgs_any l da ca dk ck W (hrc.later hW) (by omega))
    have HV := Lib.hid (fun W (hW : SB w1 W) => rchgs_any l da ca dk ck W (hrc.later hW) (by omega))
    rw [← hT] at HP HQ
    rw [← hB] at HU HV
    have HLV := Lib.hid (fun W (hW : SB w1 W) => lives36_any W (HST.out _ (bl2 hW cw1)))
    clear hT hB hrc
    go_upto_region 3 with fail
    have hS0 : SB w1 w1.drew := (Below.refl _ _).drew
    refine wp_region_held_drew (S := SB w1) (by kernel_rfl) hS0 (fun hS => ?_)
    clear hS0
    refine take_at 0 (by decide) (by kernel_rfl) (by kernel_rfl) (by kernel_rfl) (fun _ _ _ h => h) hS (yields_load_row (by rfl) 27 (.tmp 2) rfl w.heap.size rfl _ _ _ _ (fun W hW => (k0.later hW)) Tryd.underlying27 rfl (by kernel_rfl)) ?_
    simp only [z0, z1, Act.put, z3, z4, z5]
    refine tk 1 (by decide) ?_ hS (by kernel_rfl) (by kernel_rfl) (by kernel_rfl) (by rfl) (fun _ _ _ h => h) ?_ ?_
    rotate_left
    · intro W hW
      clear hW
      simp only [z0, z1]
      go_simp
      first | done | with_reducible rfl
    simp only [z0, z1, Act.put, z3, z4, z5]
    refine take_at 3 (by decide) (by kernel_rfl) (by kernel_rfl) (by kernel_rfl) (fun _ _ _ h => h) hS (yields_load_row (by rfl) 27 (.tmp 2) rfl w.heap.size rfl _ _ _ _ (fun W hW => (k0.later hW)) Tryd.underlying27 rfl (by kernel_rfl)) ?_
    simp only [z0, z1, Act.put, z3, z4, z5]
    refine tk 4 (by decide) ?_ hS (by kernel_rfl) (by kernel_rfl) (by kernel_rfl) (by rfl) (fun _ _ _ h => h) ?_ ?_
    rotate_left
    · intro W hW
      clear hW
      simp only [z0, z1]
      go_simp
      first | done | with_reducible rfl
    simp only [z0, z1, Act.put, z3, z4, z5]
    refine call_at 2 (by decide) (Pi := (fun v _ => v = (.agg #[.int .i64 (T).me, .int .i64 (T).pr, .int .i64 (T).ppm, .int .i64 (T).stt, .int .i64 (T).ev, .int .i64 (T).ct, .int .i64 (T).ba, .int .i64 (T).mo, .int .i64 (T).pen, .int .i64 (T).fe, .string (T).cal, .string (T).cur]))) (by kernel_rfl) (by rfl) (by simp only [z0, z1]; go_simp; first | done | rfl | exact ⟨rfl, rfl⟩) (call_one SB.mono hS (HP.out _ hS)) ?_
    clear hS
    rintro w2 u hS rfl
    simp only [z0, z1, Act.put, z3, z4, z5]
    refine call_at 5 (by decide) (Pi := (fun v _ => v = (.agg #[.int .i64 (T).me, .int .i64 (T).pr, .int .i64 (T).ppm, .int .i64 (T).stt, .int .i64 (T).ev, .int .i64 (T).ct, .int .i64 (T).ba, .int .i64 (T).mo, .int .i64 (T).pen, .int .i64 (T).fe, .string (T).cal, .string (T).cur]))) (by kernel_rfl) (by rfl) (by simp only [z0, z1]; go_simp; first | done | rfl | exact ⟨rfl, rfl⟩) (call_one SB.mono hS (HQ.out _ hS)) ?_
    clear hS
    rintro w3 u hS rfl
    simp only [z0, z1, Act.put, z3, z4, z5]
    refine tk 6 (by decide) ?_ hS (by kernel_rfl) (by kernel_rfl) (by kernel_rfl) (by rfl) (fun _ _ _ h => h) ?_ ?_
    rotate_left
    · intro W hW
      clear hW
      simp only [z0, z1]
      go_simp
      first | done | with_reducible rfl
    simp only [z0, z1, Act.put, z3, z4, z5]
    refine tk 7 (by decide) ?_ hS (by kernel_rfl) (by kernel_rfl) (by kernel_rfl) (by rfl) (fun _ _ _ h => h) ?_ ?_
    rotate_left
    · intro W hW
      clear hW
      simp only [z0, z1]
      go_simp
      first | done | with_reducible rfl
    simp only [z0, z1, Act.put, z3, z4, z5]
    refine take_at 8 (by decide) (by kernel_rfl) (by kernel_rfl) (by kernel_rfl) (fun _ _ _ h => h) hS (yields_load_row (by rfl) 27 (.tmp 2) rfl w.heap.size rfl _ _ _ _ (fun W hW => (k0.later hW)) Tryd.underlying27 rfl (by kernel_rfl)) ?_
    simp only [z0, z1, Act.put, z3, z4, z5]
    refine take_at 10 (by decide) (by kernel_rfl) (by kernel_rfl) (by kernel_rfl) (fun _ _ _ h => h) hS (yields_load_row (by rfl) 27 (.tmp 2) rfl w.heap.size rfl _ _ _ _ (fun W hW => (k0.later hW)) Tryd.underlying27 rfl (by kernel_rfl)) ?_
    simp only [z0, z1, Act.put, z3, z4, z5]
    refine call_at 9 (by decide) (Pi := (fun v _ => v = (.bool B))) (by kernel_rfl) (by rfl) (by simp only [z0, z1]; go_simp; first | done | rfl | exact ⟨rfl, rfl⟩) (call_one SB.mono hS (HU.out _ hS)) ?_
    clear hS
    rintro w4 u hS rfl
    simp only [z0, z1, Act.put, z3, z4, z5]
    refine call_at 11 (by decide) (Pi := (fun v _ => v = (.bool B))) (by kernel_rfl) (by rfl) (by simp only [z0, z1]; go_simp; first | done | rfl | exact ⟨rfl, rfl⟩) (call_one SB.mono hS (HV.out _ hS)) ?_
    clear hS
    rintro w5 u hS rfl
    simp only [z0, z1, Act.put, z3, z4, z5]
    refine tk 12 (by decide) ?_ hS (by kernel_rfl) (by kernel_rfl) (by kernel_rfl) (by rfl) (fun _ _ _ h => h) ?_ ?_
    rotate_left
    · intro W hW
      have g : (B == B) = true := beq_self_eq_true B
      clear hW
      simp only [z0, z1]
      go_simp
      first | done | with_reducible rfl
    simp only [z0, z1, Act.put, z3, z4, z5]
    refine tk 13 (by decide) ?_ hS (by kernel_rfl) (by kernel_rfl) (by kernel_rfl) (by rfl) (fun _ _ _ h => h) ?_ ?_
    rotate_left
    · intro W hW
      clear hW
      simp only [z0, z1]
      go_simp
      first | done | with_reducible rfl
    simp only [z0, z1, Act.put, z3, z4, z5]
    refine tk 14 (by decide) ?_ hS (by kernel_rfl) (by kernel_rfl) (by kernel_rfl) (by rfl) (fun _ _ _ h => h) ?_ ?_
    rotate_left
    · intro W hW
      clear hW
      simp only [z0, z1]
      go_simp
      first | done | with_reducible rfl
    simp only [z0, z1, Act.put, z3, z4, z5]
    refine call_at 15 (by decide) (Pi := (fun v _ => v = .bool true)) (by kernel_rfl) (by rfl) (by simp only [z0, z1]; go_simp; first | done | rfl | exact ⟨rfl, rfl⟩) (call_one SB.mono hS (HLV.out _ hS)) ?_
    clear hS
    rintro w6 u hS rfl
    simp only [z0, z1, Act.put, z3, z4, z5]
    refine tk 16 (by decide) ?_ hS (by kernel_rfl) (by kernel_rfl) (by kernel_rfl) (by rfl) (fun _ _ _ h => h) ?_ ?_
    rotate_left
    · intro W hW
      clear hW
      simp only [z0, z1]
      go_simp
      first | done | with_reducible rfl
    simp only [z0, z1, Act.put, z3, z4, z5]
    refine tk 17 (by decide) ?_ hS (by kernel_rfl) (by kernel_rfl) (by kernel_rfl) (by rfl) (fun _ _ _ h => h) ?_ ?_
    rotate_left
    · intro W hW
      clear hW
      simp only [z0, z1]
      go_simp
      first | done | with_reducible rfl
    simp only [z0, z1, Act.put, z3, z4, z5]
    refine wpAnyH_done (by kernel_rfl) ?_ _
    go_wp2_with fail
    go_ret
    exact ⟨rfl, bl2 hS cw1⟩
end Go.Proofs.YtfiplppdmedhkaaDoor.Ln

namespace Go.Proofs.YtfiplppdmedhkaaDoor.Ln
open Go Go.RowKit
open Go.Proofs.YtfiplppdmedhkaaDoor
open Go.Proofs.YtfiplppdmedhkaaDoor.Kl (Cl CalIn skE skchk_any sk_ok blE blV bl_facts bl_len BlOut ls_inj cl0 hmB euB row_of_cells)
set_option linter.unusedSimpArgs false
set_option linter.unusedVariables false
set_option maxRecDepth 100000

def _root_.Go.Proofs.YtfiplppdmedhkaaDoor.Ln.Tm.prn (t : Tm) (n : Int) : Tm := ⟨t.me, n, t.ppm, t.stt, t.ev, t.ct, t.ba, t.mo, t.pen, t.fe, t.cal, t.cur⟩
structure KF (l M : Lo) (t : Tm) (n : Int) : Prop where
  ok : chk M = 0
  out : wrap64 (P M.ds - M.pp) = n
  fee : M.fee = 0
  pen : M.pen = 0
  pi : M.pi = 0
  st : M.st = 1
  id : M.id = l.id
  ac : M.ac = l.ac
  prov : M.prov = l.prov
  on : tmOn M.tm M.cs t.stt = t.prn n
  be : tmOn M.tm M.cs (t.stt - 1) = tmOn l.tm l.cs (t.stt - 1)
  cg : chgsB M.cs = true
  dn : M.ds.length ≤ 240
  cn : M.cs.length ≤ 64
theorem kp_facts {l : Lo} {t : Tm} {c : Cl} {n : Int} (hk : chk l = 0) (hB : chgsB l.cs = true) (hn : n = capN l t.stt) (h : chE l (t.prn n) t.stt c = 0) : KF l (chL l (t.prn n) t.stt c) t n := by
  have e : chL l (t.prn n) t.stt c = chO l (t.prn n) t.stt c := if_pos h
  rw [e]
  obtain ⟨h1, h2⟩ := chg_ok hk h
  obtain ⟨k1, k2, k3⟩ := chg_keeps (t := t.prn n) hB h
  have ho := ok_iff.1 h1
  have hp := chg_parts h
  have hc := cap_parts hp.2.1
  refine ⟨h1, ?_, rfl, rfl, rfl, hc.1, rfl, rfl, rfl, k2, k3, k1, ho.n2, ho.cs⟩
  rw [h2, hn]
  show wrap64 (capN l t.stt - 0) = _
  rw [Int.sub_zero]
  exact wrap_idem _
theorem ch_zero {l : Lo} {t : Tm} {day : Int} {c : Cl} (h : chE l t day c ≠ 0) : chL l t day c = zLo := if_neg h
theorem dok_chk {l : Lo} (h : chk l = 0) : Dok l.ds := by
  intro d hd
  have := List.all_eq_true.1 (ok_iff.1 h).each d hd
  simp only [dueB, dayB, Bool.and_eq_true, decide_eq_true_eq] at this
  omega
set_option maxHeartbeats 32000000 in
theorem keeps36_walk (l : Lo) (da ca : Option Addr) (dk ck : Nat) (t : Tm) (c : Cl) (wa ha : Option Addr) (wc hc : Nat) (hcu : t.cur.size ≤ maxLen) (w : World) (hl : LoIn w l da ca) (hk : Dok l.ds) (h : CalIn w c wa ha) (hS : Rd.Stp w) :
    Calls Tryd.prog 5 #[(.agg #[.int .i64 (l).id, .int .i64 (l).ac, .int .i64 (l).st, .int .i64 (l).pp, .int .i64 (l).pi, .int .i64 (l).fee, .int .i64 (l).pen, .int .i64 (l).chg, .int .i64 (l).prov, .int .i64 (l).loss, .int .i64 (l).rcv, .int .i64 ((l).tm).me, .int .i64 ((l).tm).pr, .int .i64 ((l).tm).ppm, .int .i64 ((l).tm).stt, .int .i64 ((l).tm).ev, .int .i64 ((l).tm).ct, .int .i64 ((l).tm).ba, .int .i64 ((l).tm).mo, .int .i64 ((l).tm).pen, .int .i64 ((l).tm).fe, .string ((l).tm).cal, .string ((l).tm).cur, .slice da (l).ds.length dk, .slice ca (l).cs.length ck]), (.agg #[.int .i64 (t).me, .int .i64 (t).pr, .int .i64 (t).ppm, .int .i64 (t).stt, .int .i64 (t).ev, .int .i64 (t).ct, .int .i64 (t).ba, .int .i64 (t).mo, .int .i64 (t).pen, .int .i64 (t).fe, .string (t).cal, .string (t).cur]), (.agg #[.string (c).nm, .slice wa (c).wk.length wc, .slice ha (c).hol.length hc])] w fun e w' => e = .returned (.bool true) ∧ Below w.heap.size w w' := by
  have cw1 : Below w.heap.size w (((w.alloc (.cells #[.int .i64 (l).id, .int .i64 (l).ac, .int .i64 (l).st, .int .i64 (l).pp, .int .i64 (l).pi, .int .i64 (l).fee, .int .i64 (l).pen, .int .i64 (l).chg, .int .i64 (l).prov, .int .i64 (l).loss, .int .i64 (l).rcv, .int .i64 ((l).tm).me, .int .i64 ((l).tm).pr, .int .i64 ((l).tm).ppm, .int .i64 ((l).tm).stt, .int .i64 ((l).tm).ev, .int .i64 ((l).tm).ct, .int .i64 ((l).tm).ba, .int .i64 ((l).tm).mo, .int .i64 ((l).tm).pen, .int .i64 ((l).tm).fe, .string ((l).tm).cal, .string ((l).tm).cur, .slice da (l).ds.length dk, .slice ca (l).cs.length ck] 27)).alloc (.cells #[.int .i64 (t).me, .int .i64 (t).pr, .int .i64 (t).ppm, .int .i64 (t).stt, .int .i64 (t).ev, .int .i64 (t).ct, .int .i64 (t).ba, .int .i64 (t).mo, .int .i64 (t).pen, .int .i64 (t).fe, .string (t).cal, .string (t).cur] 23)).alloc (.cells #[.string c.nm, .slice wa c.wk.length wc, .slice ha c.hol.length hc] 38)) := (((Below.refl _ _).alloc (Nat.le_refl _) _).alloc (by simp) _).alloc (by simp; omega) _
  have k0 : Bk.Blk (((w.alloc (.cells #[.int .i64 (l).id, .int .i64 (l).ac, .int .i64 (l).st, .int .i64 (l).pp, .int .i64 (l).pi, .int .i64 (l).fee, .int .i64 (l).pen, .int .i64 (l).chg, .int .i64 (l).prov, .int .i64 (l).loss, .int .i64 (l).rcv, .int .i64 ((l).tm).me, .int .i64 ((l).tm).pr, .int .i64 ((l).tm).ppm, .int .i64 ((l).tm).stt, .int .i64 ((l).tm).ev, .int .i64 ((l).tm).ct, .int .i64 ((l).tm).ba, .int .i64 ((l).tm).mo, .int .i64 ((l).tm).pen, .int .i64 ((l).tm).fe, .string ((l).tm).cal, .string ((l).tm).cur, .slice da (l).ds.length dk, .slice ca (l).cs.length ck] 27)).alloc (.cells #[.int .i64 (t).me, .int .i64 (t).pr, .int .i64 (t).ppm, .int .i64 (t).stt, .int .i64 (t).ev, .int .i64 (t).ct, .int .i64 (t).ba, .int .i64 (t).mo, .int .i64 (t).pen, .int .i64 (t).fe, .string (t).cal, .string (t).cur] 23)).alloc (.cells #[.string c.nm, .slice wa c.wk.length wc, .slice ha c.hol.length hc] 38)) w.heap.size #[.int .i64 (l).id, .int .i64 (l).ac, .int .i64 (l).st, .int .i64 (l).pp, .int .i64 (l).pi, .int .i64 (l).fee, .int .i64 (l).pen, .int .i64 (l).chg, .int .i64 (l).prov, .int .i64 (l).loss, .int .i64 (l).rcv, .int .i64 ((l).tm).me, .int .i64 ((l).tm).pr, .int .i64 ((l).tm).ppm, .int .i64 ((l).tm).stt, .int .i64 ((l).tm).ev, .int .i64 ((l).tm).ct, .int .i64 ((l).tm).ba, .int .i64 ((l).tm).mo, .int .i64 ((l).tm).pen, .int .i64 ((l).tm).fe, .string ((l).tm).cal, .string ((l).tm).cur, .slice da (l).ds.length dk, .slice ca (l).cs.length ck] 27 := Bk.Blk.nw30
  have kt : Bk.Blk (((w.alloc (.cells #[.int .i64 (l).id, .int .i64 (l).ac, .int .i64 (l).st, .int .i64 (l).pp, .int .i64 (l).pi, .int .i64 (l).fee, .int .i64 (l).pen, .int .i64 (l).chg, .int .i64 (l).prov, .int .i64 (l).loss, .int .i64 (l).rcv, .int .i64 ((l).tm).me, .int .i64 ((l).tm).pr, .int .i64 ((l).tm).ppm, .int .i64 ((l).tm).stt, .int .i64 ((l).tm).ev, .int .i64 ((l).tm).ct, .int .i64 ((l).tm).ba, .int .i64 ((l).tm).mo, .int .i64 ((l).tm).pen, .int .i64 ((l).tm).fe, .string ((l).tm).cal, .string ((l).tm).cur, .slice da (l).ds.length dk, .slice ca (l).cs.length ck] 27)).alloc (.cells #[.int .i64 (t).me, .int .i64 (t).pr, .int .i64 (t).ppm, .int .i64 (t).stt, .int .i64 (t).ev, .int .i64 (t).ct, .int .i64 (t).ba, .int .i64 (t).mo, .int .i64 (t).pen, .int .i64 (t).fe, .string (t).cal, .string (t).cur] 23)).alloc (.cells #[.string c.nm, .slice wa c.wk.length wc, .slice ha c.hol.length hc] 38)) (w.heap.size + 1) #[.int .i64 (t).me, .int .i64 (t).pr, .int .i64 (t).ppm, .int .i64 (t).stt, .int .i64 (t).ev, .int .i64 (t).ct, .int .i64 (t).ba, .int .i64 (t).mo, .int .i64 (t).pen, .int .i64 (t).fe, .string (t).cal, .string (t).cur] 23 := Bk.Blk.nw31
  have kc : Bk.Blk (((w.alloc (.cells #[.int .i64 (l).id, .int .i64 (l).ac, .int .i64 (l).st, .int .i64 (l).pp, .int .i64 (l).pi, .int .i64 (l).fee, .int .i64 (l).pen, .int .i64 (l).chg, .int .i64 (l).prov, .int .i64 (l).loss, .int .i64 (l).rcv, .int .i64 ((l).tm).me, .int .i64 ((l).tm).pr, .int .i64 ((l).tm).ppm, .int .i64 ((l).tm).stt, .int .i64 ((l).tm).ev, .int .i64 ((l).tm).ct, .int .i64 ((l).tm).ba, .int .i64 ((l).tm).mo, .int .i64 ((l).tm).pen, .int .i64 ((l).tm).fe, .string ((l).tm).cal, .string ((l).tm).cur, .slice da (l).ds.length dk, .slice ca (l).cs.length ck] 27)).alloc (.cells #[.int .i64 (t).me, .int .i64 (t).pr, .int .i64 (t).ppm, .int .i64 (t).stt, .int .i64 (t).ev, .int .i64 (t).ct, .int .i64 (t).ba, .int .i64 (t).mo, .int .i64 (t).pen, .int .i64 (t).fe, .string (t).cal, .string (t).cur] 23)).alloc (.cells #[.string c.nm, .slice wa c.wk.length wc, .slice ha c.hol.length hc] 38)) (w.heap.size + 2) #[.string c.nm, .slice wa c.wk.length wc, .slice ha c.hol.length hc] 38 := Bk.Blk.nw32
  have hl1 : LoIn (((w.alloc (.cells #[.int .i64 (l).id, .int .i64 (l).ac, .int .i64 (l).st, .int .i64 (l).pp, .int .i64 (l).pi, .int .i64 (l).fee, .int .i64 (l).pen, .int .i64 (l).chg, .int .i64 (l).prov, .int .i64 (l).loss, .int .i64 (l).rcv, .int .i64 ((l).tm).me, .int .i64 ((l).tm).pr, .int .i64 ((l).tm).ppm, .int .i64 ((l).tm).stt, .int .i64 ((l).tm).ev, .int .i64 ((l).tm).ct, .int .i64 ((l).tm).ba, .int .i64 ((l).tm).mo, .int .i64 ((l).tm).pen, .int .i64 ((l).tm).fe, .string ((l).tm).cal, .string ((l).tm).cur, .slice da (l).ds.length dk, .slice ca (l).cs.length ck] 27)).alloc (.cells #[.int .i64 (t).me, .int .i64 (t).pr, .int .i64 (t).ppm, .int .i64 (t).stt, .int .i64 (t).ev, .int .i64 (t).ct, .int .i64 (t).ba, .int .i64 (t).mo, .int .i64 (t).pen, .int .i64 (t).fe, .string (t).cal, .string (t).cur] 23)).alloc (.cells #[.string c.nm, .slice wa c.wk.length wc, .slice ha c.hol.length hc] 38)) l da ca := hl.later cw1
  have hi := h.later cw1
  have hn1 : c.wk.length ≤ 9223372036854775807 := h.wk.1
  have hn2 : c.hol.length ≤ 9223372036854775807 := h.hol.1
  have HST := Lib.hid (fun W (hW : Below w.heap.size w W) => hS.of hW)
  have HL := Lib.hid (fun W (hW : Below w.heap.size w W) => hl.later hW)
  have HCI := Lib.hid (fun W (hW : Below w.heap.size w W) => h.later hW)
  clear hS hl h
  go_enter Tryd.func5, Tryd.ntmps5
  go_upto_region 1 with fail
  generalize (((w.alloc (.cells #[.int .i64 (l).id, .int .i64 (l).ac, .int .i64 (l).st, .int .i64 (l).pp, .int .i64 (l).pi, .int .i64 (l).fee, .int .i64 (l).pen, .int .i64 (l).chg, .int .i64 (l).prov, .int .i64 (l).loss, .int .i64 (l).rcv, .int .i64 ((l).tm).me, .int .i64 ((l).tm).pr, .int .i64 ((l).tm).ppm, .int .i64 ((l).tm).stt, .int .i64 ((l).tm).ev, .int .i64 ((l).tm).ct, .int .i64 ((l).tm).ba, .int .i64 ((l).tm).mo, .int .i64 ((l).tm).pen, .int .i64 ((l).tm).fe, .string ((l).tm).cal, .string ((l).tm).cur, .slice da (l).ds.length dk, .slice ca (l).cs.length ck] 27)).alloc (.cells #[.int .i64 (t).me, .int .i64 (t).pr, .int .i64 (t).ppm, .int .i64 (t).stt, .int .i64 (t).ev, .int .i64 (t).ct, .int .i64 (t).ba, .int .i64 (t).mo, .int .i64 (t).pen, .int .i64 (t).fe, .string (t).cal, .string (t).cur] 23)).alloc (.cells #[.string c.nm, .slice wa c.wk.length wc, .slice ha c.hol.length hc] 38)) = w1 at *
  go_wp2_with (refine wpList_load_row rfl 27 _ rfl _ rfl _ _ _ _ (k0) Tryd.underlying27 rfl (by kernel_rfl) ?_)
  refine (few_any l da ca dk ck _).mono ?_
  rintro e w2 ⟨rfl, hb⟩
  replace k0 := k0.later hb
  replace kt := kt.later hb
  replace kc := kc.later hb
  replace hi := hi.later hb
  replace hl1 := hl1.later hb
  have cw2 := bl2 hb cw1
  clear hb cw1
  cases hf : fewB l
  · clear hf
    go_wp2_with fail
    refine (lives36_any _ (HST.out _ cw2)).mono ?_
    rintro e wz ⟨rfl, hb⟩
    have cwz := bl2 hb cw2
    go_wp2_with fail
    go_ret
    exact ⟨rfl, cwz⟩
  · have hfew : l.ds.length ≤ 40 ∧ l.cs.length ≤ 70 := by unfold fewB at hf; simpa using hf
    have hd1 : DuesIn w2 da l.ds := dues_of_row (by omega) hl1.d
    clear hf
    go_wp2_with (first | (refine wpList_load_row rfl 23 _ rfl _ rfl _ _ _ _ kt Tryd.underlying23 rfl (by kernel_rfl) ?_) | (refine load_guarded 23 _ rfl rfl _ rfl _ _ _ _ kt Tryd.underlying23 rfl (by kernel_rfl) ?_) | (refine wpList_load_row rfl 38 _ rfl _ rfl _ _ _ _ kc Tryd.underlying38 rfl (by kernel_rfl) ?_) | (refine load_guarded 38 _ rfl rfl _ rfl _ _ _ _ kc Tryd.underlying38 rfl (by kernel_rfl) ?_))
    refine (small_any t c wa ha wc hc _ hn1 hn2).mono ?_
    rintro e w3 ⟨rfl, hb⟩
    replace k0 := k0.later hb
    replace kt := kt.later hb
    replace kc := kc.later hb
    replace hi := hi.later hb
    replace hl1 := hl1.later hb
    replace hd1 := hd1.later hb
    have cw3 := bl2 hb cw2
    clear hb cw2
    cases hs : smlB t c
    · clear hs
      go_wp2_with fail
      refine (lives36_any _ (HST.out _ cw3)).mono ?_
      rintro e wz ⟨rfl, hb⟩
      have cwz := bl2 hb cw3
      go_wp2_with fail
      go_ret
      exact ⟨rfl, cwz⟩
    · clear hs
      go_wp2_with (first | (refine wpList_load_row rfl 27 _ rfl _ rfl _ _ _ _ (k0) Tryd.underlying27 rfl (by kernel_rfl) ?_) | (refine load_guarded 27 _ rfl rfl _ rfl _ _ _ _ (k0) Tryd.underlying27 rfl (by kernel_rfl) ?_))
      refine (rcheck_any l da ca dk ck _ hd1 hk).mono ?_
      rintro e w4 ⟨rfl, hb⟩
      replace k0 := k0.later hb
      replace kt := kt.later hb
      replace kc := kc.later hb
      replace hi := hi.later hb
      replace hl1 := hl1.later hb
      replace hd1 := hd1.later hb
      have cw4 := bl2 hb cw3
      clear hb cw3
      by_cases he : chk l = 0
      · have g1 : (chk l != 0) = false := by simpa using he
        have HK := Lib.hid he
        clear he
        generalize chk l = E0 at g1 ⊢
        obtain ⟨B, hB⟩ : ∃ B, B = chgsB l.cs := ⟨_, rfl⟩
        have HU := Lib.hid (fun W (hr : RowIn cenc W ca l.cs) => chgs_any l da ca dk ck W hr (by omega))
        have HV := Lib.hid (fun W (hr : RowIn cenc W ca l.cs) => rchgs_any l da ca dk ck W hr (by omega))
        rw [← hB] at HU HV
        go_wp2_with (refine wpList_load_row rfl 27 _ rfl _ rfl _ _ _ _ (k0) Tryd.underlying27 rfl (by kernel_rfl) ?_)
        clear g1
        refine (HV.out _ hl1.c).mono ?_
        rintro e w5 ⟨rfl, hb⟩
        replace k0 := k0.later hb
        replace kt := kt.later hb
        replace kc := kc.later hb
        replace hi := hi.later hb
        replace hl1 := hl1.later hb
        replace hd1 := hd1.later hb
        have cw5 := bl2 hb cw4
        clear hb cw4
        have HB := Lib.hid hB
        clear hB
        cases B
        · go_wp2_with (refine wpList_load_row rfl 27 _ rfl _ rfl _ _ _ _ (k0) Tryd.underlying27 rfl (by kernel_rfl) ?_)
          refine (HU.out _ hl1.c).mono ?_
          rintro e w6 ⟨rfl, hb⟩
          have cw6 := bl2 hb cw5
          clear hb cw5
          go_wp2_with fail
          refine (lives36_any _ (HST.out _ cw6)).mono ?_
          rintro e wz ⟨rfl, hb⟩
          have cwz := bl2 hb cw6
          go_wp2_with fail
          go_ret
          exact ⟨rfl, cwz⟩
        · have HCB := Lib.hid HB.out.symm
          have lt3 := kt.c3
          go_wp2_with (refine wpList_load_row rfl 27 _ rfl _ rfl _ _ _ _ (k0) Tryd.underlying27 rfl (by kernel_rfl) ?_)
          refine (cap_any l da ca dk ck t.stt _ hd1 hk (by omega)).mono ?_
          rintro e w6 ⟨rfl, hb⟩
          replace k0 := k0.later hb
          replace kt := kt.later hb
          replace kc := kc.later hb
          replace hi := hi.later hb
          replace hl1 := hl1.later hb
          replace hd1 := hd1.later hb
          have cw6 := bl2 hb cw5
          clear hb cw5
          by_cases he : capE l t.stt = 0
          · have g1 : (capE l t.stt != 0) = false := by simpa using he
            rw [show capV l t.stt = capN l t.stt from if_pos he]
            have hst := (cap_parts he).2.1
            clear he lt3
            generalize capE l t.stt = E at g1 ⊢
            obtain ⟨n, hn⟩ : ∃ n, n = capN l t.stt := ⟨_, rfl⟩
            rw [← hn]
            have HN := Lib.hid hn
            clear hn
            have c1 := kt.c1
            have f1 := kt.f1
            go_upto_region 9 with fail
            have hbs : Below w.heap.size w (w6.setCell ⟨w.heap.size + 1, 1, none⟩ (.int .i64 n)) := cw6.setCell (show w.heap.size ≤ w.heap.size + 1 by omega) _
            have kt2 : Bk.Blk (w6.setCell ⟨w.heap.size + 1, 1, none⟩ (.int .i64 n)) (w.heap.size + 1) #[.int .i64 ((t.prn n)).me, .int .i64 ((t.prn n)).pr, .int .i64 ((t.prn n)).ppm, .int .i64 ((t.prn n)).stt, .int .i64 ((t.prn n)).ev, .int .i64 ((t.prn n)).ct, .int .i64 ((t.prn n)).ba, .int .i64 ((t.prn n)).mo, .int .i64 ((t.prn n)).pen, .int .i64 ((t.prn n)).fe, .string ((t.prn n)).cal, .string ((t.prn n)).cur] 23 := (kt.set_same (i := 1) (u := .int .i64 n)).conv rfl
            have k02 : Bk.Blk (w6.setCell ⟨w.heap.size + 1, 1, none⟩ (.int .i64 n)) w.heap.size #[.int .i64 (l).id, .int .i64 (l).ac, .int .i64 (l).st, .int .i64 (l).pp, .int .i64 (l).pi, .int .i64 (l).fee, .int .i64 (l).pen, .int .i64 (l).chg, .int .i64 (l).prov, .int .i64 (l).loss, .int .i64 (l).rcv, .int .i64 ((l).tm).me, .int .i64 ((l).tm).pr, .int .i64 ((l).tm).ppm, .int .i64 ((l).tm).stt, .int .i64 ((l).tm).ev, .int .i64 ((l).tm).ct, .int .i64 ((l).tm).ba, .int .i64 ((l).tm).mo, .int .i64 ((l).tm).pen, .int .i64 ((l).tm).fe, .string ((l).tm).cal, .string ((l).tm).cur, .slice da (l).ds.length dk, .slice ca (l).cs.length ck] 27 := k0.set_ne (by omega)
            have kc2 : Bk.Blk (w6.setCell ⟨w.heap.size + 1, 1, none⟩ (.int .i64 n)) (w.heap.size + 2) #[.string c.nm, .slice wa c.wk.length wc, .slice ha c.hol.length hc] 38 := kc.set_ne (by omega)
            have hl2 := HL.out _ hbs
            have hi2 := HCI.out _ hbs
            clear c1 f1 g1 cw6 kt k0 kc hl1 hi hd1
            generalize (w6.setCell ⟨w.heap.size + 1, 1, none⟩ (.int .i64 n)) = w7 at *
            have hd1 : DuesIn w7 da l.ds := dues_of_row (by omega) hl2.d
            have lt3 := kt2.c3
            have cw7 := hbs
            clear hbs
            go_wp2_with (first | (refine wpList_load_row rfl 27 _ rfl _ rfl _ _ _ _ (k02) Tryd.underlying27 rfl (by kernel_rfl) ?_) | (refine wpList_load_row rfl 23 _ rfl _ rfl _ _ _ _ kt2 Tryd.underlying23 rfl (by kernel_rfl) ?_) | (refine load_guarded 23 _ rfl rfl _ rfl _ _ _ _ kt2 Tryd.underlying23 rfl (by kernel_rfl) ?_) | (refine wpList_load_row rfl 38 _ rfl _ rfl _ _ _ _ kc2 Tryd.underlying38 rfl (by kernel_rfl) ?_) | (refine load_guarded 38 _ rfl rfl _ rfl _ _ _ _ kc2 Tryd.underlying38 rfl (by kernel_rfl) ?_))
            clear lt3
            refine (change_any l da ca dk ck (t.prn n) t.stt c wa ha wc hc _ hd1 hl2.c hk (by omega) (by omega) hi2 hcu (HST.out _ cw7)).mono ?_
            rintro e w8 ⟨da2, dk2, ca2, ck2, rfl, hd2, hr2, hf2, hb⟩
            replace k02 := k02.later hb
            replace kt2 := kt2.later hb
            replace kc2 := kc2.later hb
            replace hl2 := hl2.later hb
            have cw8 := bl2 hb cw7
            clear hb cw7 hd1 hi2 hf2
            have HKF := Lib.hid (kp_facts (c := c) HK.out HCB.out HN.out)
            have HZ := Lib.hid (ch_zero (l := l) (t := (t.prn n)) (day := t.stt) (c := c))
            clear HN
            generalize chL l (t.prn n) t.stt c = M at *
            generalize chE l (t.prn n) t.stt c = E2 at *
            go_upto_region 10 with (refine wpList_store_row rfl 27 _ _ rfl _ _ rfl rfl _ _ Bk.Blk.nw10 (by kernel_rfl) rfl (one25 ..) ?_)
            have hbs : Below w8.heap.size w8 ((w8.alloc (.cells #[.int .i64 0, .int .i64 0, .int .i64 0, .int .i64 0, .int .i64 0, .int .i64 0, .int .i64 0, .int .i64 0, .int .i64 0, .int .i64 0, .int .i64 0, .int .i64 0, .int .i64 0, .int .i64 0, .int .i64 0, .int .i64 0, .int .i64 0, .int .i64 0, .int .i64 0, .int .i64 0, .int .i64 0, .string { data := #[] }, .string { data := #[] }, .slice none 0 0, .slice none 0 0] 27)).setRow w8.heap.size #[.int .i64 (M).id, .int .i64 (M).ac, .int .i64 (M).st, .int .i64 (M).pp, .int .i64 (M).pi, .int .i64 (M).fee, .int .i64 (M).pen, .int .i64 (M).chg, .int .i64 (M).prov, .int .i64 (M).loss, .int .i64 (M).rcv, .int .i64 ((M).tm).me, .int .i64 ((M).tm).pr, .int .i64 ((M).tm).ppm, .int .i64 ((M).tm).stt, .int .i64 ((M).tm).ev, .int .i64 ((M).tm).ct, .int .i64 ((M).tm).ba, .int .i64 ((M).tm).mo, .int .i64 ((M).tm).pen, .int .i64 ((M).tm).fe, .string ((M).tm).cal, .string ((M).tm).cur, .slice da2 (M).ds.length dk2, .slice ca2 (M).cs.length ck2]) := Below_setRow ((Below.refl _ _).alloc (Nat.le_refl _) _) (Nat.le_refl _) _
            have k2 : Bk.Blk ((w8.alloc (.cells #[.int .i64 0, .int .i64 0, .int .i64 0, .int .i64 0, .int .i64 0, .int .i64 0, .int .i64 0, .int .i64 0, .int .i64 0, .int .i64 0, .int .i64 0, .int .i64 0, .int .i64 0, .int .i64 0, .int .i64 0, .int .i64 0, .int .i64 0, .int .i64 0, .int .i64 0, .int .i64 0, .int .i64 0, .string { data := #[] }, .string { data := #[] }, .slice none 0 0, .slice none 0 0] 27)).setRow w8.heap.size #[.int .i64 (M).id, .int .i64 (M).ac, .int .i64 (M).st, .int .i64 (M).pp, .int .i64 (M).pi, .int .i64 (M).fee, .int .i64 (M).pen, .int .i64 (M).chg, .int .i64 (M).prov, .int .i64 (M).loss, .int .i64 (M).rcv, .int .i64 ((M).tm).me, .int .i64 ((M).tm).pr, .int .i64 ((M).tm).ppm, .int .i64 ((M).tm).stt, .int .i64 ((M).tm).ev, .int .i64 ((M).tm).ct, .int .i64 ((M).tm).ba, .int .i64 ((M).tm).mo, .int .i64 ((M).tm).pen, .int .i64 ((M).tm).fe, .string ((M).tm).cal, .string ((M).tm).cur, .slice da2 (M).ds.length dk2, .slice ca2 (M).cs.length ck2]) w8.heap.size #[.int .i64 (M).id, .int .i64 (M).ac, .int .i64 (M).st, .int .i64 (M).pp, .int .i64 (M).pi, .int .i64 (M).fee, .int .i64 (M).pen, .int .i64 (M).chg, .int .i64 (M).prov, .int .i64 (M).loss, .int .i64 (M).rcv, .int .i64 ((M).tm).me, .int .i64 ((M).tm).pr, .int .i64 ((M).tm).ppm, .int .i64 ((M).tm).stt, .int .i64 ((M).tm).ev, .int .i64 ((M).tm).ct, .int .i64 ((M).tm).ba, .int .i64 ((M).tm).mo, .int .i64 ((M).tm).pen, .int .i64 ((M).tm).fe, .string ((M).tm).cal, .string ((M).tm).cur, .slice da2 (M).ds.length dk2, .slice ca2 (M).cs.length ck2] 27 := Blk_setRow_same Bk.Blk.nw10
            replace k02 := k02.later hbs
            replace kt2 := kt2.later hbs
            replace kc2 := kc2.later hbs
            replace hl2 := hl2.later hbs
            replace hd2 := hd2.later hbs
            replace hr2 := hr2.later hbs
            have cw9 := bl2 hbs cw8
            clear cw8 hbs
            generalize ((w8.alloc (.cells #[.int .i64 0, .int .i64 0, .int .i64 0, .int .i64 0, .int .i64 0, .int .i64 0, .int .i64 0, .int .i64 0, .int .i64 0, .int .i64 0, .int .i64 0, .int .i64 0, .int .i64 0, .int .i64 0, .int .i64 0, .int .i64 0, .int .i64 0, .int .i64 0, .int .i64 0, .int .i64 0, .int .i64 0, .string { data := #[] }, .string { data := #[] }, .slice none 0 0, .slice none 0 0] 27)).setRow w8.heap.size #[.int .i64 (M).id, .int .i64 (M).ac, .int .i64 (M).st, .int .i64 (M).pp, .int .i64 (M).pi, .int .i64 (M).fee, .int .i64 (M).pen, .int .i64 (M).chg, .int .i64 (M).prov, .int .i64 (M).loss, .int .i64 (M).rcv, .int .i64 ((M).tm).me, .int .i64 ((M).tm).pr, .int .i64 ((M).tm).ppm, .int .i64 ((M).tm).stt, .int .i64 ((M).tm).ev, .int .i64 ((M).tm).ct, .int .i64 ((M).tm).ba, .int .i64 ((M).tm).mo, .int .i64 ((M).tm).pen, .int .i64 ((M).tm).fe, .string ((M).tm).cal, .string ((M).tm).cur, .slice da2 (M).ds.length dk2, .slice ca2 (M).cs.length ck2]) = w9 at *
            generalize w8.heap.size = g2 at *
            by_cases he : E2 = 0
            · have hkf := HKF.out he
              have g1 : (E2 != 0) = false := by rw [he]; rfl
              subst he
              clear HKF HZ
              have HKF := Lib.hid hkf
              have HO := Lib.hid (fun W (hd : DuesIn W da2 M.ds) => rout_any M da2 ca2 dk2 ck2 W hd (dok_chk HKF.out.ok))
              rw [hkf.out] at HO
              have gn : (n != n) = false := by simp
              have g5 : (M.fee != 0) = false := by rw [hkf.fee]; rfl
              have g6 : (M.pen != 0) = false := by rw [hkf.pen]; rfl
              have g4 : (M.pi != 0) = false := by rw [hkf.pi]; rfl
              have g2 : (M.st != 1) = false := by rw [hkf.st]; rfl
              have g0 : (M.id != l.id) = false := by rw [hkf.id]; simp
              have ga : (M.ac != l.ac) = false := by rw [hkf.ac]; simp
              have g8 : (M.prov != l.prov) = false := by rw [hkf.prov]; simp
              have HC := Lib.hid (fun W (hd : DuesIn W da2 M.ds) => rcheck_any M da2 ca2 dk2 ck2 W hd (dok_chk HKF.out.ok))
              rw [hkf.ok] at HC
              clear hkf
              go_wp2_with (refine wpList_load_row rfl 27 _ rfl _ rfl _ _ _ _ (k2) Tryd.underlying27 rfl (by kernel_rfl) ?_)
              refine (HO.out _ hd2).mono ?_
              rintro e w10 ⟨rfl, hb⟩
              replace k02 := k02.later hb
              replace kt2 := kt2.later hb
              replace hl2 := hl2.later hb
              replace hd2 := hd2.later hb
              replace hr2 := hr2.later hb
              replace k2 := k2.later hb
              have cw10 := bl2 hb cw9
              clear hb cw9
              have m0 := k2.c0
              have m1 := k2.c1
              have m2 := k2.c2
              have m4 := k2.c4
              have m5 := k2.c5
              have m6 := k2.c6
              have m8 := k2.c8
              have q0 := k02.c0
              have q1 := k02.c1
              have q8 := k02.c8
              go_wp2_with (first | (refine wpList_load_row rfl 27 _ rfl _ rfl _ _ _ _ (k2) Tryd.underlying27 rfl (by kernel_rfl) ?_) | (refine load_guarded 27 _ rfl rfl _ rfl _ _ _ _ (k2) Tryd.underlying27 rfl (by kernel_rfl) ?_))
              clear m0 m1 m2 m4 m5 m6 m8 q0 q1 q8
              refine (HC.out _ hd2).mono ?_
              rintro e w11 ⟨rfl, hb⟩
              replace k02 := k02.later hb
              replace kt2 := kt2.later hb
              replace hl2 := hl2.later hb
              replace hd2 := hd2.later hb
              replace hr2 := hr2.later hb
              replace k2 := k2.later hb
              have cw11 := bl2 hb cw10
              clear hb cw10
              have HP := Lib.hid (fun W (hW : SB w11 W) => terms_on M da2 ca2 dk2 ck2 t.stt W (hr2.later hW) (by have := HKF.out.cn; omega))
              rw [HKF.out.on] at HP
              obtain ⟨T, hT⟩ : ∃ T, T = tmOn l.tm l.cs (t.stt - 1) := ⟨_, rfl⟩
              have HQ := Lib.hid (fun W (hW : SB w11 W) => terms_on M da2 ca2 dk2 ck2 (t.stt - 1) W (hr2.later hW) (by have := HKF.out.cn; omega))
              rw [HKF.out.be] at HQ
              have hrl := hl2.c
              have HR := Lib.hid (fun W (hW : SB w11 W) => terms_on l da ca dk ck (t.stt - 1) W (hrl.later hW) (by omega))
              rw [← hT] at HQ HR
              have HG := Lib.hid (fun W (hW : SB w11 W) => chgs_any M da2 ca2 dk2 ck2 W (hr2.later hW) (by have := HKF.out.cn; omega))
              rw [HKF.out.cg] at HG
              have HLV := Lib.hid (fun W (hW : SB w11 W) => lives36_any W (HST.out _ (bl2 hW cw11)))
              have hsub : IntKind.i64.wrap (t.stt - 1) = t.stt - 1 := by rw [IntKind.wrap_i64]; omega
              have hsub2 : IntKind.i64.wrap ((t.prn n).stt - 1) = t.stt - 1 := hsub
              clear hT hrl g0 ga g2 g4 g5 g6 g8 gn g1
              go_upto_region 14 with fail
              have hS0 : SB w11 w11.drew := (Below.refl _ _).drew
              refine wp_region_held_drew (S := SB w11) (by kernel_rfl) hS0 (fun hS => ?_)
              clear hS0
              refine take_at 0 (by decide) (by kernel_rfl) (by kernel_rfl) (by kernel_rfl) (fun _ _ _ h => h) hS (yields_load_row (by rfl) 27 (.tmp 9) rfl g2 rfl _ _ _ _ (fun W hW => (k2.later hW)) Tryd.underlying27 rfl (by kernel_rfl)) ?_
              simp only [z0, z1, Act.put, z3, z4, z5]
              refine tk 1 (by decide) ?_ hS (by kernel_rfl) (by kernel_rfl) (by kernel_rfl) (by rfl) (fun _ _ _ h => h) ?_ ?_
              rotate_left
              · intro W hW
                clear hW
                simp only [z0, z1]
                go_simp
                first | done | with_reducible rfl
              simp only [z0, z1, Act.put, z3, z4, z5]
              refine tk 2 (by decide) ?_ hS (by kernel_rfl) (by kernel_rfl) (by kernel_rfl) (by rfl) (fun _ _ _ h => h) ?_ ?_
              rotate_left
              · intro W hW
                have q := (kt2.later hW).c3
                clear hW
                simp only [z0, z1]
                go_simp
                first | done | with_reducible rfl
              simp only [z0, z1, Act.put, z3, z4, z5]
              refine take_at 4 (by decide) (by kernel_rfl) (by kernel_rfl) (by kernel_rfl) (fun _ _ _ h => h) hS (yields_load_row (by rfl) 23 (.tmp 4) rfl (w.heap.size + 1) rfl _ _ _ _ (fun W hW => (kt2.later hW)) Tryd.underlying23 rfl (by kernel_rfl)) ?_
              simp only [z0, z1, Act.put, z3, z4, z5]
              refine call_at 3 (by decide) (Pi := (fun v _ => v = (.agg #[.int .i64 ((t.prn n)).me, .int .i64 ((t.prn n)).pr, .int .i64 ((t.prn n)).ppm, .int .i64 ((t.prn n)).stt, .int .i64 ((t.prn n)).ev, .int .i64 ((t.prn n)).ct, .int .i64 ((t.prn n)).ba, .int .i64 ((t.prn n)).mo, .int .i64 ((t.prn n)).pen, .int .i64 ((t.prn n)).fe, .string ((t.prn n)).cal, .string ((t.prn n)).cur]))) (by kernel_rfl) (by rfl) (by simp only [z0, z1]; go_simp; first | done | rfl | exact ⟨rfl, rfl⟩) (call_one SB.mono hS (HP.out _ hS)) ?_
              clear hS
              rintro v1 u hS rfl
              simp only [z0, z1, Act.put, z3, z4, z5]
              refine tk 5 (by decide) ?_ hS (by kernel_rfl) (by kernel_rfl) (by kernel_rfl) (by rfl) (fun _ _ _ h => h) ?_ ?_
              rotate_left
              · intro W hW
                clear hW
                simp only [z0, z1]
                go_simp
                first | done | with_reducible rfl
              simp only [z0, z1, Act.put, z3, z4, z5]
              refine tk 6 (by decide) ?_ hS (by kernel_rfl) (by kernel_rfl) (by kernel_rfl) (by rfl) (fun _ _ _ h => h) ?_ ?_
              rotate_left
              · intro W hW
                clear hW
                simp only [z0, z1]
                go_simp
                first | done | with_reducible rfl
              simp only [z0, z1, Act.put, z3, z4, z5]
              refine take_at 7 (by decide) (by kernel_rfl) (by kernel_rfl) (by kernel_rfl) (fun _ _ _ h => h) hS (yields_load_row (by rfl) 27 (.tmp 9) rfl g2 rfl _ _ _ _ (fun W hW => (k2.later hW)) Tryd.underlying27 rfl (by kernel_rfl)) ?_
              simp only [z0, z1, Act.put, z3, z4, z5]
              refine tk 8 (by decide) ?_ hS (by kernel_rfl) (by kernel_rfl) (by kernel_rfl) (by rfl) (fun _ _ _ h => h) ?_ ?_
              rotate_left
              · intro W hW
                clear hW
                simp only [z0, z1]
                go_simp
                first | done | with_reducible rfl
              simp only [z0, z1, Act.put, z3, z4, z5]
              refine tk 9 (by decide) ?_ hS (by kernel_rfl) (by kernel_rfl) (by kernel_rfl) (by rfl) (fun _ _ _ h => h) ?_ ?_
              rotate_left
              · intro W hW
                have q := (kt2.later hW).c3
                clear hW
                simp only [z0, z1]
                go_simp
                first | done | with_reducible rfl
              simp only [z0, z1, Act.put, z3, z4, z5]
              refine tk 10 (by decide) ?_ hS (by kernel_rfl) (by kernel_rfl) (by kernel_rfl) (by rfl) (fun _ _ _ h => h) ?_ ?_
              rotate_left
              · intro W hW
                clear hW
                simp only [z0, z1]
                go_simp
                first | done | with_reducible rfl
              simp only [z0, z1, Act.put, z3, z4, z5]
              refine take_at 12 (by decide) (by kernel_rfl) (by kernel_rfl) (by kernel_rfl) (fun _ _ _ h => h) hS (yields_load_row (by rfl) 27 (.tmp 3) rfl w.heap.size rfl _ _ _ _ (fun W hW => (k02.later hW)) Tryd.underlying27 rfl (by kernel_rfl)) ?_
              simp only [z0, z1, Act.put, z3, z4, z5]
              refine tk 13 (by decide) ?_ hS (by kernel_rfl) (by kernel_rfl) (by kernel_rfl) (by rfl) (fun _ _ _ h => h) ?_ ?_
              rotate_left
              · intro W hW
                clear hW
                simp only [z0, z1]
                go_simp
                first | done | with_reducible rfl
              simp only [z0, z1, Act.put, z3, z4, z5]
              refine tk 14 (by decide) ?_ hS (by kernel_rfl) (by kernel_rfl) (by kernel_rfl) (by rfl) (fun _ _ _ h => h) ?_ ?_
              rotate_left
              · intro W hW
                have q := (kt2.later hW).c3
                clear hW
                simp only [z0, z1]
                go_simp
                first | done | with_reducible rfl
              simp only [z0, z1, Act.put, z3, z4, z5]
              refine tk 15 (by decide) ?_ hS (by kernel_rfl) (by kernel_rfl) (by kernel_rfl) (by rfl) (fun _ _ _ h => h) ?_ ?_
              rotate_left
              · intro W hW
                clear hW
                simp only [z0, z1]
                go_simp
                first | done | with_reducible rfl
              simp only [z0, z1, Act.put, z3, z4, z5]
              refine call_at 11 (by decide) (Pi := (fun v _ => v = (.agg #[.int .i64 (T).me, .int .i64 (T).pr, .int .i64 (T).ppm, .int .i64 (T).stt, .int .i64 (T).ev, .int .i64 (T).ct, .int .i64 (T).ba, .int .i64 (T).mo, .int .i64 (T).pen, .int .i64 (T).fe, .string (T).cal, .string (T).cur]))) (by kernel_rfl) (by rfl) (by simp only [z0, z1]; go_simp; first | done | rfl | exact ⟨rfl, rfl⟩) (call_one SB.mono hS (HQ.out _ hS)) ?_
              clear hS
              rintro v2 u hS rfl
              simp only [z0, z1, Act.put, z3, z4, z5]
              refine call_at 16 (by decide) (Pi := (fun v _ => v = (.agg #[.int .i64 (T).me, .int .i64 (T).pr, .int .i64 (T).ppm, .int .i64 (T).stt, .int .i64 (T).ev, .int .i64 (T).ct, .int .i64 (T).ba, .int .i64 (T).mo, .int .i64 (T).pen, .int .i64 (T).fe, .string (T).cal, .string (T).cur]))) (by kernel_rfl) (by rfl) (by simp only [z0, z1]; go_simp; first | done | rfl | exact ⟨rfl, rfl⟩) (call_one SB.mono hS (HR.out _ hS)) ?_
              clear hS
              rintro v3 u hS rfl
              simp only [z0, z1, Act.put, z3, z4, z5]
              refine tk 17 (by decide) ?_ hS (by kernel_rfl) (by kernel_rfl) (by kernel_rfl) (by rfl) (fun _ _ _ h => h) ?_ ?_
              rotate_left
              · intro W hW
                clear hW
                simp only [z0, z1]
                go_simp
                first | done | with_reducible rfl
              simp only [z0, z1, Act.put, z3, z4, z5]
              refine tk 18 (by decide) ?_ hS (by kernel_rfl) (by kernel_rfl) (by kernel_rfl) (by rfl) (fun _ _ _ h => h) ?_ ?_
              rotate_left
              · intro W hW
                clear hW
                simp only [z0, z1]
                go_simp
                first | done | with_reducible rfl
              simp only [z0, z1, Act.put, z3, z4, z5]
              refine tk 19 (by decide) ?_ hS (by kernel_rfl) (by kernel_rfl) (by kernel_rfl) (by rfl) (fun _ _ _ h => h) ?_ ?_
              rotate_left
              · intro W hW
                clear hW
                simp only [z0, z1]
                go_simp
                first | done | with_reducible rfl
              simp only [z0, z1, Act.put, z3, z4, z5]
              refine take_at 20 (by decide) (by kernel_rfl) (by kernel_rfl) (by kernel_rfl) (fun _ _ _ h => h) hS (yields_load_row (by rfl) 27 (.tmp 9) rfl g2 rfl _ _ _ _ (fun W hW => (k2.later hW)) Tryd.underlying27 rfl (by kernel_rfl)) ?_
              simp only [z0, z1, Act.put, z3, z4, z5]
              refine call_at 21 (by decide) (Pi := (fun v _ => v = .bool true)) (by kernel_rfl) (by rfl) (by simp only [z0, z1]; go_simp; first | done | rfl | exact ⟨rfl, rfl⟩) (call_one SB.mono hS (HG.out _ hS)) ?_
              clear hS
              rintro v4 u hS rfl
              simp only [z0, z1, Act.put, z3, z4, z5]
              refine tk 22 (by decide) ?_ hS (by kernel_rfl) (by kernel_rfl) (by kernel_rfl) (by rfl) (fun _ _ _ h => h) ?_ ?_
              rotate_left
              · intro W hW
                clear hW
                simp only [z0, z1]
                go_simp
                first | done | with_reducible rfl
              simp only [z0, z1, Act.put, z3, z4, z5]
              refine tk 23 (by decide) ?_ hS (by kernel_rfl) (by kernel_rfl) (by kernel_rfl) (by rfl) (fun _ _ _ h => h) ?_ ?_
              rotate_left
              · intro W hW
                clear hW
                simp only [z0, z1]
                go_simp
                first | done | with_reducible rfl
              simp only [z0, z1, Act.put, z3, z4, z5]
              refine call_at 24 (by decide) (Pi := (fun v _ => v = .bool true)) (by kernel_rfl) (by rfl) (by simp only [z0, z1]; go_simp; first | done | rfl | exact ⟨rfl, rfl⟩) (call_one SB.mono hS (HLV.out _ hS)) ?_
              clear hS
              rintro v5 u hS rfl
              simp only [z0, z1, Act.put, z3, z4, z5]
              refine tk 25 (by decide) ?_ hS (by kernel_rfl) (by kernel_rfl) (by kernel_rfl) (by rfl) (fun _ _ _ h => h) ?_ ?_
              rotate_left
              · intro W hW
                clear hW
                simp only [z0, z1]
                go_simp
                first | done | with_reducible rfl
              simp only [z0, z1, Act.put, z3, z4, z5]
              refine tk 26 (by decide) ?_ hS (by kernel_rfl) (by kernel_rfl) (by kernel_rfl) (by rfl) (fun _ _ _ h => h) ?_ ?_
              rotate_left
              · intro W hW
                clear hW
                simp only [z0, z1]
                go_simp
                first | done | with_reducible rfl
              simp only [z0, z1, Act.put, z3, z4, z5]
              refine wpAnyH_done (by kernel_rfl) ?_ _
              go_wp2_with fail
              go_ret
              exact ⟨rfl, bl2 hS cw11⟩
            · have g1 : (E2 != 0) = true := by simpa using he
              obtain rfl : M = zLo := HZ.out he
              clear he HKF HZ
              go_wp2_with (refine wpList_load_row rfl 27 _ rfl _ rfl _ _ _ _ (k2) Tryd.underlying27 rfl (by kernel_rfl) ?_)
              refine (same_any zLo da2 ca2 none none dk2 ck2 0 0 _ hd2.row RowIn.none hr2 RowIn.none (by decide) (by decide)).mono ?_
              rintro e w10 ⟨rfl, hb⟩
              have cw10 := bl2 hb cw9
              clear hb cw9
              go_wp2_with fail
              refine (lives36_any _ (HST.out _ cw10)).mono ?_
              rintro e wz ⟨rfl, hb⟩
              have cwz := bl2 hb cw10
              go_wp2_with fail
              go_ret
              exact ⟨rfl, cwz⟩
          · rw [show capV l t.stt = 0 from if_neg he]
            have g1 : (capE l t.stt != 0) = true := by simpa using he
            clear he lt3
            generalize capE l t.stt = E at g1 ⊢
            go_wp2_with fail
            refine (lives36_any _ (HST.out _ cw6)).mono ?_
            rintro e wz ⟨rfl, hb⟩
            have cwz := bl2 hb cw6
            go_wp2_with fail
            go_ret
            exact ⟨rfl, cwz⟩
      · have g1 : (chk l != 0) = true := by simpa using he
        clear he
        generalize chk l = E0 at g1 ⊢
        go_wp2_with fail
        refine (lives36_any _ (HST.out _ cw4)).mono ?_
        rintro e wz ⟨rfl, hb⟩
        have cwz := bl2 hb cw4
        go_wp2_with fail
        go_ret
        exact ⟨rfl, cwz⟩
end Go.Proofs.YtfiplppdmedhkaaDoor.Ln
