/-
  Provisions: lists of loans that are great; three walks.
-/
import Derived.Test.YtjicnlgndkcahaaDoorPv6
namespace Go.Proofs.YtjicnlgndkcahaaDoor.Ln
open Go.RowKit
open Go.Proofs.YtjicnlgndkcahaaDoor
set_option linter.unusedSimpArgs false

/-- A list of loans in memory, of any size. -/
structure LosIn0 (W : World) (a : Option Addr) (xs : List LoS) : Prop where
  row : RowIn lenc W a xs
  each : ∀ x ∈ xs, LoIn' W x.l x.da x.ca
theorem LosIn0.later {W W' : World} {a : Option Addr} {xs : List LoS} (h : LosIn0 W a xs) (hb : Below W.heap.size W W') : LosIn0 W' a xs := ⟨h.row.later hb, fun x hx => (h.each x hx).later hb⟩
def greatLs (xs : List LoS) : Bool := (xs.take 13).any (fun x => great38 x.l) || decide (12 < xs.length)
theorem great38_len {l : Lo} (h : great38 l = false) : l.ds.length ≤ 260 ∧ l.cs.length ≤ 70 := by
  unfold great38 at h
  simp at h
  omega
theorem greatLs_no {xs : List LoS} (h : greatLs xs = false) : xs.length ≤ 12 ∧ ∀ x ∈ xs, x.l.ds.length ≤ 260 := by
  unfold greatLs at h
  rw [Bool.or_eq_false_iff] at h
  have hl : xs.length ≤ 12 := by have := of_decide_eq_false h.2; omega
  refine ⟨hl, fun x hx => (great38_len ?_).1⟩
  have := h.1
  rw [List.take_of_length_le (by omega), List.any_eq_false] at this
  have := this x hx
  simpa using this
theorem greatLs_yes {xs : List LoS} {k : Nat} (h : k < xs.length) (hk : k < 13) (hp : great38 xs[k]!.l = true) : greatLs xs = true := by
  unfold greatLs
  rw [Bool.or_eq_true]
  refine .inl ?_
  rw [List.any_eq_true]
  exact ⟨xs[k]!, by rw [getElem!_pos xs k h, ← List.getElem_take (j := 13) (h := by simp; omega)]; exact List.getElem_mem _, hp⟩
theorem greatLs_end {xs : List LoS} {k : Nat} (hk : k = min xs.length 13) (h : ∀ j, j < k → great38 xs[j]!.l = false) : greatLs xs = decide (12 < xs.length) := by
  unfold greatLs
  have : (xs.take 13).any (fun x => great38 x.l) = false := by
    rw [List.any_eq_false]
    intro x hx
    obtain ⟨j, hj, rfl⟩ := List.mem_iff_getElem.1 hx
    have hj' : j < min xs.length 13 := by simp at hj; omega
    have := h j (by omega)
    rw [getElem!_pos xs j (by omega)] at this
    simp [this]
  rw [this, Bool.false_or]
/-- Where the loop of GreatList stands. -/
def glR (w : World) (xs : List LoS) (g : Nat) (s3 : Value) (W : World) : Prop := ∃ k : Nat, k + g = min xs.length 13 ∧ s3 = .int .i64 k ∧ (∀ j, j < k → great38 xs[j]!.l = false) ∧ Below w.heap.size w W
set_option maxRecDepth 100000 in
set_option maxHeartbeats 8000000 in
theorem glist_any (a : Option Addr) (cap : Nat) (xs : List LoS) (w : World) (h : LosIn0 w a xs) :
    Calls Tryd.prog 19 #[.slice a xs.length cap] w fun e w' => e = .returned (.bool (greatLs xs)) ∧ Below w.heap.size w w' := by
  have H := Lib.hid h
  clear h
  go_enter Tryd.func19, Tryd.ntmps19
  go_wp2_with fail
  go_loopg [3] (min xs.length 13) (glR w xs)
  case atStart => exact ⟨0, by omega, rfl, fun j hj => by omega, Below.refl _ _⟩
  case round =>
    obtain ⟨k, hk, rfl, hall, hbr⟩ := hrel
    have HA := Lib.hid hall
    clear hall
    by_cases hlt : k < xs.length
    · by_cases h12 : k ≤ 12
      · obtain ⟨b, off, rfl, hc⟩ := (H.out.row.later hbr).mid lenc_len (by omega)
        have hx := hc k hlt
        have hm : xs[k]! ∈ xs := by rw [getElem!_pos xs k hlt]; exact List.getElem_mem hlt
        have HGX := Lib.hid (fun (W : World) (hW : Below w.heap.size w W) => great38_any xs[k]!.l xs[k]!.da xs[k]!.ca xs[k]!.dk xs[k]!.ck W ((H.out.each _ hm).later hW).c)
        have HY := Lib.hid (fun (hp : great38 xs[k]!.l = true) => greatLs_yes hlt (by omega) hp)
        have HN := Lib.hid (show great38 xs[k]!.l = false → ∀ j, j < k + 1 → great38 xs[j]!.l = false from fun hp j hj => by
          by_cases e : j = k
          · rw [e]; exact hp
          · exact HA.out j (by omega))
        clear hc hm
        obtain ⟨x, ex⟩ : ∃ x, x = xs[k]! := ⟨_, rfl⟩
        rw [← ex] at hx HGX HY HN
        clear ex
        generalize great38 x.l = gb at *
        go_wp2_with (refine wpList_load_mid rfl 27 _ rfl b (off + k * 25) (by rfl) (lenc x) _ hx Tryd.underlying27 rfl (by kernel_rfl) ?_)
        refine (HGX.out _ hbr).mono ?_
        rintro e w2 ⟨rfl, hb2⟩
        have b2 := bl2 hb2 hbr
        clear hb2 hbr hx
        cases gb
        · have HNN := Lib.hid (HN.out rfl)
          clear HN HY
          go_wp2_with fail
          go_roundg (gk - 1)
          case measure => omega
          case rel => exact ⟨k + 1, by omega, by go_num, HNN.out, b2⟩
        · have HE := Lib.hid (HY.out rfl)
          clear HN HY
          go_wp2_with fail
          go_ret
          exact ⟨by rw [HE.out]; rfl, b2⟩
      · have HE := Lib.hid (greatLs_end (k := k) (by omega) HA.out)
        go_wp2_with fail
        go_ret
        exact ⟨by rw [HE.out]; first | rfl | (simp; omega), hbr⟩
    · have HE := Lib.hid (greatLs_end (k := k) (by omega) HA.out)
      go_wp2_with fail
      go_ret
      exact ⟨by rw [HE.out]; first | rfl | (simp; omega), hbr⟩

set_option maxRecDepth 100000 in
set_option maxHeartbeats 8000000 in
theorem stages_walk (l : Lo) (da ca : Option Addr) (dk ck : Nat) (on st : Int) (_ : (Lit.int .i64 on).wf = true) (_ : (Lit.int .i64 st).wf = true) (w : World) (hl : LoIn' w l da ca) (hd : Dok l.ds) (hS : Rd.Stp w ∧ Ctb w) :
    Calls Tryd.prog 3 #[(.agg #[.int .i64 (l).id, .int .i64 (l).ac, .int .i64 (l).st, .int .i64 (l).pp, .int .i64 (l).pi, .int .i64 (l).fee, .int .i64 (l).pen, .int .i64 (l).chg, .int .i64 (l).prov, .int .i64 (l).loss, .int .i64 (l).rcv, .int .i64 ((l).tm).me, .int .i64 ((l).tm).pr, .int .i64 ((l).tm).ppm, .int .i64 ((l).tm).stt, .int .i64 ((l).tm).ev, .int .i64 ((l).tm).ct, .int .i64 ((l).tm).ba, .int .i64 ((l).tm).mo, .int .i64 ((l).tm).pen, .int .i64 ((l).tm).fe, .string ((l).tm).cal, .string ((l).tm).cur, .slice da (l).ds.length dk, .slice ca (l).cs.length ck]), .int .i64 on, .int .i64 st] w fun e w' => e = .returned (.bool true) ∧ Below w.heap.size w w' := by
  have HH := Lib.hid (fun (W : World) (hW : Below w.heap.size w W) => hl.later hW)
  have HD := Lib.hid hd
  have HSS := Lib.hid (fun (W : World) (hW : Below w.heap.size w W) => And.intro (hS.1.of hW) (hS.2.of hW))
  have HG := Lib.hid (fun (W : World) (hW : Below w.heap.size w W) => great38_any l da ca dk ck W (hl.later hW).c)
  have HGL := Lib.hid (great38_len (l := l))
  have cw : Below w.heap.size w (w.alloc (.cells #[.int .i64 (l).id, .int .i64 (l).ac, .int .i64 (l).st, .int .i64 (l).pp, .int .i64 (l).pi, .int .i64 (l).fee, .int .i64 (l).pen, .int .i64 (l).chg, .int .i64 (l).prov, .int .i64 (l).loss, .int .i64 (l).rcv, .int .i64 ((l).tm).me, .int .i64 ((l).tm).pr, .int .i64 ((l).tm).ppm, .int .i64 ((l).tm).stt, .int .i64 ((l).tm).ev, .int .i64 ((l).tm).ct, .int .i64 ((l).tm).ba, .int .i64 ((l).tm).mo, .int .i64 ((l).tm).pen, .int .i64 ((l).tm).fe, .string ((l).tm).cal, .string ((l).tm).cur, .slice da (l).ds.length dk, .slice ca (l).cs.length ck] 27)) := (Below.refl _ _).alloc (Nat.le_refl _) _
  have k0 := Bk.Blk.nw10 (W := w) (cs := #[.int .i64 (l).id, .int .i64 (l).ac, .int .i64 (l).st, .int .i64 (l).pp, .int .i64 (l).pi, .int .i64 (l).fee, .int .i64 (l).pen, .int .i64 (l).chg, .int .i64 (l).prov, .int .i64 (l).loss, .int .i64 (l).rcv, .int .i64 ((l).tm).me, .int .i64 ((l).tm).pr, .int .i64 ((l).tm).ppm, .int .i64 ((l).tm).stt, .int .i64 ((l).tm).ev, .int .i64 ((l).tm).ct, .int .i64 ((l).tm).ba, .int .i64 ((l).tm).mo, .int .i64 ((l).tm).pen, .int .i64 ((l).tm).fe, .string ((l).tm).cal, .string ((l).tm).cur, .slice da (l).ds.length dk, .slice ca (l).cs.length ck]) (t := 27)
  clear hl hd hS
  generalize great38 l = gb at *
  have HLV := Lib.hid (fun (W : World) (hW : Below w.heap.size w W) => live38_any W (HSS.out W hW).2 (HSS.out W hW).1)
  have HR1 := Lib.hid (fun (W : World) => prate_any st W)
  have HR2 := Lib.hid (fun (W : World) => prrate_any st W)
  have HST := Lib.hid (fun (hn : l.ds.length ≤ 260) (W : World) (hW : Below w.heap.size w W) => And.intro (pstage_any l da ca dk ck on W (dues_of_row (by omega) (HH.out W hW).d) (HSS.out W hW).2) (rpstage_any l da ca dk ck on W (dues_of_row (by omega) (HH.out W hW).d)))
  generalize stgL l on = sg at *
  generalize rteS st = rt at *
  have q1 : (sg == sg) = true := beq_self_eq_true sg
  have q2 : (rt == rt) = true := beq_self_eq_true rt
  cases gb
  · have hn := (HGL.out rfl).1
    go_enter Tryd.func3, Tryd.ntmps3
    go_upto_region 1 with fail
    have cw1 := cw
    generalize (w.alloc (.cells #[.int .i64 (l).id, .int .i64 (l).ac, .int .i64 (l).st, .int .i64 (l).pp, .int .i64 (l).pi, .int .i64 (l).fee, .int .i64 (l).pen, .int .i64 (l).chg, .int .i64 (l).prov, .int .i64 (l).loss, .int .i64 (l).rcv, .int .i64 ((l).tm).me, .int .i64 ((l).tm).pr, .int .i64 ((l).tm).ppm, .int .i64 ((l).tm).stt, .int .i64 ((l).tm).ev, .int .i64 ((l).tm).ct, .int .i64 ((l).tm).ba, .int .i64 ((l).tm).mo, .int .i64 ((l).tm).pen, .int .i64 ((l).tm).fe, .string ((l).tm).cal, .string ((l).tm).cur, .slice da (l).ds.length dk, .slice ca (l).cs.length ck] 27)) = w1 at *
    have HQ := Lib.hid (fun (W' : World) (hW : Reg.Cls w1 W') => k0.later hW)
    clear k0 cw
    refine Reg.region_quiet (by kernel_rfl) (by kernel_rfl) ?_
    iterate 22 (first | go_big_quiet_skip | (go_big_quiet_want; (first | (refine quiet_load_row 27 _ rfl _ rfl _ _ _ _ (HQ.out) Tryd.underlying27 rfl (by kernel_rfl) ?_; (simp only [Act.put, List.setIfInBounds_toArray, List.set_cons_zero, List.set_cons_succ]; go_big_quiet_on)) | (go_big_quiet_op; go_big_quiet_on) | (apply Reg.quiet_run; (intro W hW; skip; go_simp; (first | done | rfl | exact ⟨rfl, rfl⟩ )); (simp only [Act.put, List.setIfInBounds_toArray, List.set_cons_zero, List.set_cons_succ]; go_big_quiet_on)) | (apply Reg.quiet_call; (intro W hW; go_simp; (first | done | rfl | exact ⟨rfl, rfl⟩)); (intro W hW; (first | (go_at_call 8; exact Reg.cls_call hW (HG.out _ (bl2 hW cw1))) | (go_at_call 9; exact Reg.cls_call hW ((HST.out hn _ (bl2 hW cw1)).1)) | (go_at_call 10; exact Reg.cls_call hW ((HST.out hn _ (bl2 hW cw1)).2)) | (go_at_call 11; exact Reg.cls_call hW (HR1.out _)) | (go_at_call 12; exact Reg.cls_call hW (HR2.out _)) | (go_at_call 13; exact Reg.cls_call hW (HLV.out _ (bl2 hW cw1))))); (simp only [Act.put, List.setIfInBounds_toArray, List.set_cons_zero, List.set_cons_succ]; go_big_quiet_on)))))
    refine wpQuiet_nil ?_
    intro w2 hW
    have b2 := bl2 hW cw1
    go_wp2_with fail
    go_ret
    exact ⟨rfl, b2⟩
  · skip
    go_enter Tryd.func3, Tryd.ntmps3
    go_upto_region 1 with fail
    have cw1 := cw
    generalize (w.alloc (.cells #[.int .i64 (l).id, .int .i64 (l).ac, .int .i64 (l).st, .int .i64 (l).pp, .int .i64 (l).pi, .int .i64 (l).fee, .int .i64 (l).pen, .int .i64 (l).chg, .int .i64 (l).prov, .int .i64 (l).loss, .int .i64 (l).rcv, .int .i64 ((l).tm).me, .int .i64 ((l).tm).pr, .int .i64 ((l).tm).ppm, .int .i64 ((l).tm).stt, .int .i64 ((l).tm).ev, .int .i64 ((l).tm).ct, .int .i64 ((l).tm).ba, .int .i64 ((l).tm).mo, .int .i64 ((l).tm).pen, .int .i64 ((l).tm).fe, .string ((l).tm).cal, .string ((l).tm).cur, .slice da (l).ds.length dk, .slice ca (l).cs.length ck] 27)) = w1 at *
    have HQ := Lib.hid (fun (W' : World) (hW : Reg.Cls w1 W') => k0.later hW)
    clear k0 cw
    refine Reg.region_quiet (by kernel_rfl) (by kernel_rfl) ?_
    iterate 22 (first | go_big_quiet_skip | (go_big_quiet_want; (first | (refine quiet_load_row 27 _ rfl _ rfl _ _ _ _ (HQ.out) Tryd.underlying27 rfl (by kernel_rfl) ?_; (simp only [Act.put, List.setIfInBounds_toArray, List.set_cons_zero, List.set_cons_succ]; go_big_quiet_on)) | (go_big_quiet_op; go_big_quiet_on) | (apply Reg.quiet_run; (intro W hW; skip; go_simp; (first | done | rfl | exact ⟨rfl, rfl⟩ )); (simp only [Act.put, List.setIfInBounds_toArray, List.set_cons_zero, List.set_cons_succ]; go_big_quiet_on)) | (apply Reg.quiet_call; (intro W hW; go_simp; (first | done | rfl | exact ⟨rfl, rfl⟩)); (intro W hW; (first | (go_at_call 8; exact Reg.cls_call hW (HG.out _ (bl2 hW cw1))) | (go_at_call 13; exact Reg.cls_call hW (HLV.out _ (bl2 hW cw1))))); (simp only [Act.put, List.setIfInBounds_toArray, List.set_cons_zero, List.set_cons_succ]; go_big_quiet_on)))))
    refine wpQuiet_nil ?_
    intro w2 hW
    have b2 := bl2 hW cw1
    go_wp2_with fail
    go_ret
    exact ⟨rfl, b2⟩

theorem mvL_len {l : Lo} {on : Int} (h : l.ds.length ≤ 100000 ∧ l.cs.length ≤ 100000) : (mvL l on).ds.length ≤ 100000 ∧ (mvL l on).cs.length ≤ 100000 := by
  unfold mvL
  split
  · exact h
  · exact ⟨Nat.zero_le _, Nat.zero_le _⟩
set_option maxRecDepth 100000 in
set_option maxHeartbeats 8000000 in
theorem expects_walk (l : Lo) (da ca : Option Addr) (dk ck : Nat) (on : Int) (_ : (Lit.int .i64 on).wf = true) (w : World) (hl : LoIn' w l da ca) (hd : Dok l.ds) (hS : Rd.Stp w ∧ Ctb w) :
    Calls Tryd.prog 4 #[(.agg #[.int .i64 (l).id, .int .i64 (l).ac, .int .i64 (l).st, .int .i64 (l).pp, .int .i64 (l).pi, .int .i64 (l).fee, .int .i64 (l).pen, .int .i64 (l).chg, .int .i64 (l).prov, .int .i64 (l).loss, .int .i64 (l).rcv, .int .i64 ((l).tm).me, .int .i64 ((l).tm).pr, .int .i64 ((l).tm).ppm, .int .i64 ((l).tm).stt, .int .i64 ((l).tm).ev, .int .i64 ((l).tm).ct, .int .i64 ((l).tm).ba, .int .i64 ((l).tm).mo, .int .i64 ((l).tm).pen, .int .i64 ((l).tm).fe, .string ((l).tm).cal, .string ((l).tm).cur, .slice da (l).ds.length dk, .slice ca (l).cs.length ck]), .int .i64 on] w fun e w' => e = .returned (.bool true) ∧ Below w.heap.size w w' := by
  have HH := Lib.hid (fun (W : World) (hW : Below w.heap.size w W) => hl.later hW)
  have HD := Lib.hid hd
  have HSS := Lib.hid (fun (W : World) (hW : Below w.heap.size w W) => And.intro (hS.1.of hW) (hS.2.of hW))
  have HG := Lib.hid (fun (W : World) (hW : Below w.heap.size w W) => great38_any l da ca dk ck W (hl.later hW).c)
  have HGL := Lib.hid (great38_len (l := l))
  have cw : Below w.heap.size w (w.alloc (.cells #[.int .i64 (l).id, .int .i64 (l).ac, .int .i64 (l).st, .int .i64 (l).pp, .int .i64 (l).pi, .int .i64 (l).fee, .int .i64 (l).pen, .int .i64 (l).chg, .int .i64 (l).prov, .int .i64 (l).loss, .int .i64 (l).rcv, .int .i64 ((l).tm).me, .int .i64 ((l).tm).pr, .int .i64 ((l).tm).ppm, .int .i64 ((l).tm).stt, .int .i64 ((l).tm).ev, .int .i64 ((l).tm).ct, .int .i64 ((l).tm).ba, .int .i64 ((l).tm).mo, .int .i64 ((l).tm).pen, .int .i64 ((l).tm).fe, .string ((l).tm).cal, .string ((l).tm).cur, .slice da (l).ds.length dk, .slice ca (l).cs.length ck] 27)) := (Below.refl _ _).alloc (Nat.le_refl _) _
  have k0 := Bk.Blk.nw10 (W := w) (cs := #[.int .i64 (l).id, .int .i64 (l).ac, .int .i64 (l).st, .int .i64 (l).pp, .int .i64 (l).pi, .int .i64 (l).fee, .int .i64 (l).pen, .int .i64 (l).chg, .int .i64 (l).prov, .int .i64 (l).loss, .int .i64 (l).rcv, .int .i64 ((l).tm).me, .int .i64 ((l).tm).pr, .int .i64 ((l).tm).ppm, .int .i64 ((l).tm).stt, .int .i64 ((l).tm).ev, .int .i64 ((l).tm).ct, .int .i64 ((l).tm).ba, .int .i64 ((l).tm).mo, .int .i64 ((l).tm).pen, .int .i64 ((l).tm).fe, .string ((l).tm).cal, .string ((l).tm).cur, .slice da (l).ds.length dk, .slice ca (l).cs.length ck]) (t := 27)
  clear hl hd hS
  generalize great38 l = gb at *
  have HLV := Lib.hid (fun (W : World) (hW : Below w.heap.size w W) => live38_any W (HSS.out W hW).2 (HSS.out W hW).1)
  go_enter Tryd.func4, Tryd.ntmps4
  go_wp2_with (refine wpList_load_row rfl 27 _ rfl _ rfl _ _ _ _ (Bk.Blk.nw10) Tryd.underlying27 rfl (by kernel_rfl) ?_)
  refine (HG.out _ cw).mono ?_
  rintro e w1 ⟨rfl, hb⟩
  replace k0 := k0.later hb
  have cw1 := bl2 hb cw
  clear hb cw HG
  cases gb
  · have hlen := HGL.out rfl
    have HN := Lib.hid (show l.ds.length ≤ 100000 ∧ l.cs.length ≤ 100000 from ⟨by omega, by omega⟩)
    have HX1 := Lib.hid (fun (W : World) (hW : Below w.heap.size w W) => expd_any l da ca dk ck on W (dues_of_row (by have := HN.out.1; omega) (HH.out W hW).d) (HSS.out W hW).2 (HSS.out W hW).1)
    have HX2 := Lib.hid (fun (W : World) (hW : Below w.heap.size w W) => rexpd_any l da ca dk ck on W (dues_of_row (by have := HN.out.1; omega) (HH.out W hW).d) HD.out)
    have HM1 := Lib.hid (fun (W : World) (hW : Below w.heap.size w W) => move_any l da ca dk ck on W (HH.out W hW) HN.out.1 HN.out.2 (HSS.out W hW).2 (HSS.out W hW).1)
    have HM2 := Lib.hid (fun (W : World) (hW : Below w.heap.size w W) => rmove_any l da ca dk ck on W (HH.out W hW) HN.out.1 HN.out.2 HD.out)
    have HML := Lib.hid (show (mvL l on).ds.length ≤ 100000 ∧ (mvL l on).cs.length ≤ 100000 from mvL_len HN.out)
    generalize exV l on = xv at *
    generalize exE l on = xe at *
    generalize mvL l on = A at *
    generalize mvD l on = D at *
    generalize mvE l on = E at *
    have q1 : (xv == xv) = true := beq_self_eq_true xv
    have q2 : (xe == xe) = true := beq_self_eq_true xe
    have q3 : (D == D) = true := beq_self_eq_true D
    have q4 : (E == E) = true := beq_self_eq_true E
    clear hlen
    go_wp2_with (refine wpList_load_row rfl 27 _ rfl _ rfl _ _ _ _ (k0) Tryd.underlying27 rfl (by kernel_rfl) ?_)
    refine (HX1.out _ cw1).mono ?_
    rintro e w2 ⟨rfl, hb⟩
    replace k0 := k0.later hb
    have cw2 := bl2 hb cw1
    clear hb cw1
    go_wp2_with (refine wpList_load_row rfl 27 _ rfl _ rfl _ _ _ _ (k0) Tryd.underlying27 rfl (by kernel_rfl) ?_)
    refine (HX2.out _ cw2).mono ?_
    rintro e w3 ⟨rfl, hb⟩
    replace k0 := k0.later hb
    have cw3 := bl2 hb cw2
    clear hb cw2
    go_wp2_with (refine wpList_load_row rfl 27 _ rfl _ rfl _ _ _ _ (k0) Tryd.underlying27 rfl (by kernel_rfl) ?_)
    refine (HM1.out _ cw3).mono ?_
    rintro e w4 ⟨da1, dk1, ca1, ck1, rfl, hl1, hb⟩
    replace k0 := k0.later hb
    have cw4 := bl2 hb cw3
    clear hb cw3
    go_upto_region 6 with (refine wpList_store_row rfl 27 _ _ rfl _ _ rfl rfl _ _ Bk.Blk.nw10 (by kernel_rfl) rfl (one25 ..) ?_)
    have hbs : Below w4.heap.size w4 ((w4.alloc (.cells #[.int .i64 0, .int .i64 0, .int .i64 0, .int .i64 0, .int .i64 0, .int .i64 0, .int .i64 0, .int .i64 0, .int .i64 0, .int .i64 0, .int .i64 0, .int .i64 0, .int .i64 0, .int .i64 0, .int .i64 0, .int .i64 0, .int .i64 0, .int .i64 0, .int .i64 0, .int .i64 0, .int .i64 0, .string { data := #[] }, .string { data := #[] }, .slice none 0 0, .slice none 0 0] 27)).setRow w4.heap.size #[.int .i64 (A).id, .int .i64 (A).ac, .int .i64 (A).st, .int .i64 (A).pp, .int .i64 (A).pi, .int .i64 (A).fee, .int .i64 (A).pen, .int .i64 (A).chg, .int .i64 (A).prov, .int .i64 (A).loss, .int .i64 (A).rcv, .int .i64 ((A).tm).me, .int .i64 ((A).tm).pr, .int .i64 ((A).tm).ppm, .int .i64 ((A).tm).stt, .int .i64 ((A).tm).ev, .int .i64 ((A).tm).ct, .int .i64 ((A).tm).ba, .int .i64 ((A).tm).mo, .int .i64 ((A).tm).pen, .int .i64 ((A).tm).fe, .string ((A).tm).cal, .string ((A).tm).cur, .slice da1 (A).ds.length dk1, .slice ca1 (A).cs.length ck1]) := Below_setRow ((Below.refl _ _).alloc (Nat.le_refl _) _) (Nat.le_refl _) _
    have k1 : Bk.Blk ((w4.alloc (.cells #[.int .i64 0, .int .i64 0, .int .i64 0, .int .i64 0, .int .i64 0, .int .i64 0, .int .i64 0, .int .i64 0, .int .i64 0, .int .i64 0, .int .i64 0, .int .i64 0, .int .i64 0, .int .i64 0, .int .i64 0, .int .i64 0, .int .i64 0, .int .i64 0, .int .i64 0, .int .i64 0, .int .i64 0, .string { data := #[] }, .string { data := #[] }, .slice none 0 0, .slice none 0 0] 27)).setRow w4.heap.size #[.int .i64 (A).id, .int .i64 (A).ac, .int .i64 (A).st, .int .i64 (A).pp, .int .i64 (A).pi, .int .i64 (A).fee, .int .i64 (A).pen, .int .i64 (A).chg, .int .i64 (A).prov, .int .i64 (A).loss, .int .i64 (A).rcv, .int .i64 ((A).tm).me, .int .i64 ((A).tm).pr, .int .i64 ((A).tm).ppm, .int .i64 ((A).tm).stt, .int .i64 ((A).tm).ev, .int .i64 ((A).tm).ct, .int .i64 ((A).tm).ba, .int .i64 ((A).tm).mo, .int .i64 ((A).tm).pen, .int .i64 ((A).tm).fe, .string ((A).tm).cal, .string ((A).tm).cur, .slice da1 (A).ds.length dk1, .slice ca1 (A).cs.length ck1]) w4.heap.size #[.int .i64 (A).id, .int .i64 (A).ac, .int .i64 (A).st, .int .i64 (A).pp, .int .i64 (A).pi, .int .i64 (A).fee, .int .i64 (A).pen, .int .i64 (A).chg, .int .i64 (A).prov, .int .i64 (A).loss, .int .i64 (A).rcv, .int .i64 ((A).tm).me, .int .i64 ((A).tm).pr, .int .i64 ((A).tm).ppm, .int .i64 ((A).tm).stt, .int .i64 ((A).tm).ev, .int .i64 ((A).tm).ct, .int .i64 ((A).tm).ba, .int .i64 ((A).tm).mo, .int .i64 ((A).tm).pen, .int .i64 ((A).tm).fe, .string ((A).tm).cal, .string ((A).tm).cur, .slice da1 (A).ds.length dk1, .slice ca1 (A).cs.length ck1] 27 := Blk_setRow_same Bk.Blk.nw10
    replace k0 := k0.later hbs
    replace hl1 := hl1.later hbs
    have cw5 := bl2 hbs cw4
    clear cw4 hbs
    generalize ((w4.alloc (.cells #[.int .i64 0, .int .i64 0, .int .i64 0, .int .i64 0, .int .i64 0, .int .i64 0, .int .i64 0, .int .i64 0, .int .i64 0, .int .i64 0, .int .i64 0, .int .i64 0, .int .i64 0, .int .i64 0, .int .i64 0, .int .i64 0, .int .i64 0, .int .i64 0, .int .i64 0, .int .i64 0, .int .i64 0, .string { data := #[] }, .string { data := #[] }, .slice none 0 0, .slice none 0 0] 27)).setRow w4.heap.size #[.int .i64 (A).id, .int .i64 (A).ac, .int .i64 (A).st, .int .i64 (A).pp, .int .i64 (A).pi, .int .i64 (A).fee, .int .i64 (A).pen, .int .i64 (A).chg, .int .i64 (A).prov, .int .i64 (A).loss, .int .i64 (A).rcv, .int .i64 ((A).tm).me, .int .i64 ((A).tm).pr, .int .i64 ((A).tm).ppm, .int .i64 ((A).tm).stt, .int .i64 ((A).tm).ev, .int .i64 ((A).tm).ct, .int .i64 ((A).tm).ba, .int .i64 ((A).tm).mo, .int .i64 ((A).tm).pen, .int .i64 ((A).tm).fe, .string ((A).tm).cal, .string ((A).tm).cur, .slice da1 (A).ds.length dk1, .slice ca1 (A).cs.length ck1]) = w5 at *
    generalize w4.heap.size = g1 at *
    go_wp2_with (refine wpList_load_row rfl 27 _ rfl _ rfl _ _ _ _ (k0) Tryd.underlying27 rfl (by kernel_rfl) ?_)
    refine (HM2.out _ cw5).mono ?_
    rintro e w6 ⟨da2, dk2, ca2, ck2, rfl, hl2, hb⟩
    replace k0 := k0.later hb
    replace hl1 := hl1.later hb
    replace k1 := k1.later hb
    have cw6 := bl2 hb cw5
    clear hb cw5
    go_upto_region 7 with (refine wpList_store_row rfl 27 _ _ rfl _ _ rfl rfl _ _ Bk.Blk.nw10 (by kernel_rfl) rfl (one25 ..) ?_)
    have hbs : Below w6.heap.size w6 ((w6.alloc (.cells #[.int .i64 0, .int .i64 0, .int .i64 0, .int .i64 0, .int .i64 0, .int .i64 0, .int .i64 0, .int .i64 0, .int .i64 0, .int .i64 0, .int .i64 0, .int .i64 0, .int .i64 0, .int .i64 0, .int .i64 0, .int .i64 0, .int .i64 0, .int .i64 0, .int .i64 0, .int .i64 0, .int .i64 0, .string { data := #[] }, .string { data := #[] }, .slice none 0 0, .slice none 0 0] 27)).setRow w6.heap.size #[.int .i64 (A).id, .int .i64 (A).ac, .int .i64 (A).st, .int .i64 (A).pp, .int .i64 (A).pi, .int .i64 (A).fee, .int .i64 (A).pen, .int .i64 (A).chg, .int .i64 (A).prov, .int .i64 (A).loss, .int .i64 (A).rcv, .int .i64 ((A).tm).me, .int .i64 ((A).tm).pr, .int .i64 ((A).tm).ppm, .int .i64 ((A).tm).stt, .int .i64 ((A).tm).ev, .int .i64 ((A).tm).ct, .int .i64 ((A).tm).ba, .int .i64 ((A).tm).mo, .int .i64 ((A).tm).pen, .int .i64 ((A).tm).fe, .string ((A).tm).cal, .string ((A).tm).cur, .slice da2 (A).ds.length dk2, .slice ca2 (A).cs.length ck2]) := Below_setRow ((Below.refl _ _).alloc (Nat.le_refl _) _) (Nat.le_refl _) _
    have k2 : Bk.Blk ((w6.alloc (.cells #[.int .i64 0, .int .i64 0, .int .i64 0, .int .i64 0, .int .i64 0, .int .i64 0, .int .i64 0, .int .i64 0, .int .i64 0, .int .i64 0, .int .i64 0, .int .i64 0, .int .i64 0, .int .i64 0, .int .i64 0, .int .i64 0, .int .i64 0, .int .i64 0, .int .i64 0, .int .i64 0, .int .i64 0, .string { data := #[] }, .string { data := #[] }, .slice none 0 0, .slice none 0 0] 27)).setRow w6.heap.size #[.int .i64 (A).id, .int .i64 (A).ac, .int .i64 (A).st, .int .i64 (A).pp, .int .i64 (A).pi, .int .i64 (A).fee, .int .i64 (A).pen, .int .i64 (A).chg, .int .i64 (A).prov, .int .i64 (A).loss, .int .i64 (A).rcv, .int .i64 ((A).tm).me, .int .i64 ((A).tm).pr, .int .i64 ((A).tm).ppm, .int .i64 ((A).tm).stt, .int .i64 ((A).tm).ev, .int .i64 ((A).tm).ct, .int .i64 ((A).tm).ba, .int .i64 ((A).tm).mo, .int .i64 ((A).tm).pen, .int .i64 ((A).tm).fe, .string ((A).tm).cal, .string ((A).tm).cur, .slice da2 (A).ds.length dk2, .slice ca2 (A).cs.length ck2]) w6.heap.size #[.int .i64 (A).id, .int .i64 (A).ac, .int .i64 (A).st, .int .i64 (A).pp, .int .i64 (A).pi, .int .i64 (A).fee, .int .i64 (A).pen, .int .i64 (A).chg, .int .i64 (A).prov, .int .i64 (A).loss, .int .i64 (A).rcv, .int .i64 ((A).tm).me, .int .i64 ((A).tm).pr, .int .i64 ((A).tm).ppm, .int .i64 ((A).tm).stt, .int .i64 ((A).tm).ev, .int .i64 ((A).tm).ct, .int .i64 ((A).tm).ba, .int .i64 ((A).tm).mo, .int .i64 ((A).tm).pen, .int .i64 ((A).tm).fe, .string ((A).tm).cal, .string ((A).tm).cur, .slice da2 (A).ds.length dk2, .slice ca2 (A).cs.length ck2] 27 := Blk_setRow_same Bk.Blk.nw10
    replace k0 := k0.later hbs
    replace hl1 := hl1.later hbs
    replace k1 := k1.later hbs
    replace hl2 := hl2.later hbs
    have cw7 := bl2 hbs cw6
    clear cw6 hbs
    generalize ((w6.alloc (.cells #[.int .i64 0, .int .i64 0, .int .i64 0, .int .i64 0, .int .i64 0, .int .i64 0, .int .i64 0, .int .i64 0, .int .i64 0, .int .i64 0, .int .i64 0, .int .i64 0, .int .i64 0, .int .i64 0, .int .i64 0, .int .i64 0, .int .i64 0, .int .i64 0, .int .i64 0, .int .i64 0, .int .i64 0, .string { data := #[] }, .string { data := #[] }, .slice none 0 0, .slice none 0 0] 27)).setRow w6.heap.size #[.int .i64 (A).id, .int .i64 (A).ac, .int .i64 (A).st, .int .i64 (A).pp, .int .i64 (A).pi, .int .i64 (A).fee, .int .i64 (A).pen, .int .i64 (A).chg, .int .i64 (A).prov, .int .i64 (A).loss, .int .i64 (A).rcv, .int .i64 ((A).tm).me, .int .i64 ((A).tm).pr, .int .i64 ((A).tm).ppm, .int .i64 ((A).tm).stt, .int .i64 ((A).tm).ev, .int .i64 ((A).tm).ct, .int .i64 ((A).tm).ba, .int .i64 ((A).tm).mo, .int .i64 ((A).tm).pen, .int .i64 ((A).tm).fe, .string ((A).tm).cal, .string ((A).tm).cur, .slice da2 (A).ds.length dk2, .slice ca2 (A).cs.length ck2]) = w7 at *
    generalize w6.heap.size = g2 at *
    go_wp2_with (first | (refine load_guarded 27 _ rfl rfl _ rfl _ _ _ _ (k1) Tryd.underlying27 rfl (by kernel_rfl) ?_) | (refine load_guarded 27 _ rfl rfl _ rfl _ _ _ _ (k2) Tryd.underlying27 rfl (by kernel_rfl) ?_))
    refine (same_any A da1 ca1 da2 ca2 dk1 ck1 dk2 ck2 _ hl1.d hl2.d hl1.c hl2.c HML.out.1 HML.out.2).mono ?_
    rintro e w8 ⟨rfl, hb⟩
    replace k0 := k0.later hb
    replace hl1 := hl1.later hb
    replace k1 := k1.later hb
    replace hl2 := hl2.later hb
    replace k2 := k2.later hb
    have cw8 := bl2 hb cw7
    clear hb cw7
    go_wp2_with fail
    refine (HLV.out _ cw8).mono ?_
    rintro e w9 ⟨rfl, hb⟩
    replace k0 := k0.later hb
    replace hl1 := hl1.later hb
    replace k1 := k1.later hb
    replace hl2 := hl2.later hb
    replace k2 := k2.later hb
    have cw9 := bl2 hb cw8
    clear hb cw8
    go_wp2_with fail
    go_ret
    exact ⟨rfl, cw9⟩
  · go_wp2_with fail
    refine (HLV.out _ cw1).mono ?_
    rintro e w2 ⟨rfl, hb⟩
    have cw2 := bl2 hb cw1
    go_wp2_with fail
    go_ret
    exact ⟨rfl, cw2⟩

set_option maxRecDepth 100000 in
set_option maxHeartbeats 8000000 in
theorem totals_walk (a : Option Addr) (cap : Nat) (xs : List LoS) (on : Int) (_ : (Lit.int .i64 on).wf = true) (w : World) (hl : LosIn0 w a xs) (hd : ∀ x ∈ xs, Dok x.l.ds) (hS : Rd.Stp w ∧ Ctb w) :
    Calls Tryd.prog 5 #[.slice a xs.length cap, .int .i64 on] w fun e w' => e = .returned (.bool true) ∧ Below w.heap.size w w' := by
  have HH := Lib.hid (fun (W : World) (hW : Below w.heap.size w W) => hl.later hW)
  have HD := Lib.hid hd
  have HSS := Lib.hid (fun (W : World) (hW : Below w.heap.size w W) => And.intro (hS.1.of hW) (hS.2.of hW))
  have HG := Lib.hid (glist_any a cap xs w hl)
  have HGL := Lib.hid (greatLs_no (xs := xs))
  have HLV := Lib.hid (fun (W : World) (hW : Below w.heap.size w W) => live38_any W (HSS.out W hW).2 (HSS.out W hW).1)
  clear hl hd hS
  generalize greatLs xs = gb at *
  go_enter Tryd.func5, Tryd.ntmps5
  go_wp2_with fail
  refine HG.out.mono ?_
  rintro e w1 ⟨rfl, cw1⟩
  clear HG
  cases gb
  · have hno := HGL.out rfl
    have HIN := Lib.hid (fun (W : World) (hW : Below w.heap.size w W) => (show LosIn W a xs from ⟨(HH.out W hW).row, (HH.out W hW).each, fun x hx => by have := hno.2 x hx; omega⟩))
    have HN := Lib.hid (show xs.length ≤ 100000 by omega)
    have HT1 := Lib.hid (fun (W : World) (hW : Below w.heap.size w W) => total_any a cap xs on W (HIN.out W hW) HN.out (HSS.out W hW).2 (HSS.out W hW).1)
    have HT2 := Lib.hid (fun (W : World) (hW : Below w.heap.size w W) => rtotal_any a cap xs on W (HIN.out W hW) HN.out HD.out)
    clear hno
    generalize totGo on xs 0 = t at *
    obtain ⟨v, c⟩ := t
    have q1 : (v == v) = true := beq_self_eq_true v
    have q2 : (c == c) = true := beq_self_eq_true c
    go_wp2_with fail
    refine (HT1.out _ cw1).mono ?_
    rintro e w2 ⟨rfl, hb⟩
    have cw2 := bl2 hb cw1
    clear hb cw1
    go_wp2_with fail
    refine (HT2.out _ cw2).mono ?_
    rintro e w3 ⟨rfl, hb⟩
    have cw3 := bl2 hb cw2
    clear hb cw2
    go_wp2_with fail
    refine (HLV.out _ cw3).mono ?_
    rintro e w4 ⟨rfl, hb⟩
    have cw4 := bl2 hb cw3
    go_wp2_with fail
    go_ret
    exact ⟨rfl, cw4⟩
  · go_wp2_with fail
    refine (HLV.out _ cw1).mono ?_
    rintro e w2 ⟨rfl, hb⟩
    have cw2 := bl2 hb cw1
    go_wp2_with fail
    go_ret
    exact ⟨rfl, cw2⟩

end Go.Proofs.YtjicnlgndkcahaaDoor.Ln
