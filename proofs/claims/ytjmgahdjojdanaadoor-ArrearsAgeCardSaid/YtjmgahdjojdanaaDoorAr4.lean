/-
  Arrears: the sample of the laws.
-/
import Derived.Test.YtjmgahdjojdanaaDoorAr3
import Derived.Test.YtjmgahdjojdanaaDoorPv1
namespace Go.Proofs.YtjmgahdjojdanaaDoor.Ln
open Go.RowKit
open Go.Proofs.YtjmgahdjojdanaaDoor
open Go.Proofs.YtjmgahdjojdanaaDoor.Wm
set_option linter.unusedSimpArgs false
set_option maxRecDepth 100000

def twoA : Lo := ⟨1, 1000, 1, 0, 0, 0, 0, 31, 0, 0, 0, ⟨0, 1000, 0, 0, 0, 0, 0, 0, 100000, 0, .empty, .empty⟩, [⟨1, 31, 500, 10⟩, ⟨2, 59, 500, 5⟩], []⟩
def twoX : Lo := { twoA with pp := 500, pi := 10 }
theorem row_of_blkA {α : Type} {enc : α → List Value} {W : World} {g : Nat} {t : TypeId} {xs : List α} (h : Bk.Blk W g (flat enc xs).toArray t) : RowIn enc W (some ⟨g, 0, none⟩) xs := fun _ =>
  ⟨g, 0, rfl, fun j u hj => by rw [Nat.zero_add, h.cell]; simpa using hj⟩
/-- A loan that a call has returned. -/
def LoanV (l : Lo) (v : Value) (W : World) : Prop := ∃ da dk ca ck, v = (.agg #[.int .i64 (l).id, .int .i64 (l).ac, .int .i64 (l).st, .int .i64 (l).pp, .int .i64 (l).pi, .int .i64 (l).fee, .int .i64 (l).pen, .int .i64 (l).chg, .int .i64 (l).prov, .int .i64 (l).loss, .int .i64 (l).rcv, .int .i64 ((l).tm).me, .int .i64 ((l).tm).pr, .int .i64 ((l).tm).ppm, .int .i64 ((l).tm).stt, .int .i64 ((l).tm).ev, .int .i64 ((l).tm).ct, .int .i64 ((l).tm).ba, .int .i64 ((l).tm).mo, .int .i64 ((l).tm).pen, .int .i64 ((l).tm).fe, .string ((l).tm).cal, .string ((l).tm).cur, .slice da (l).ds.length dk, .slice ca (l).cs.length ck]) ∧ LoInA W l da ca ∧ ∀ ad, da = some ad → ad.block < W.heap.size
set_option maxHeartbeats 4000000 in
theorem twoA_any (w : World) : Calls Tryd.prog 27 #[] w fun e w' => ∃ v, e = .returned v ∧ LoanV twoA v w' ∧ Below w.heap.size w w' := by
  go_enter Tryd.func27, Tryd.ntmps27
  have b2 : Below w.heap.size w ((w.alloc (.cells #[.int .i64 0, .int .i64 0, .int .i64 0, .int .i64 0, .int .i64 0, .int .i64 0, .int .i64 0, .int .i64 0, .int .i64 0, .int .i64 0, .int .i64 0, .int .i64 0, .int .i64 0, .int .i64 0, .int .i64 0, .int .i64 0, .int .i64 0, .int .i64 0, .int .i64 0, .int .i64 0, .int .i64 0, .string .empty, .string .empty, .slice none 0 0, .slice none 0 0] 27)).alloc (.cells #[.int .i64 1, .int .i64 31, .int .i64 500, .int .i64 10, .int .i64 2, .int .i64 59, .int .i64 500, .int .i64 5] 55)) := ((Below.refl _ _).alloc (Nat.le_refl _) _).alloc (by simp) _
  have hz := (Bk.Blk.nw10 (W := w) (cs := #[.int .i64 0, .int .i64 0, .int .i64 0, .int .i64 0, .int .i64 0, .int .i64 0, .int .i64 0, .int .i64 0, .int .i64 0, .int .i64 0, .int .i64 0, .int .i64 0, .int .i64 0, .int .i64 0, .int .i64 0, .int .i64 0, .int .i64 0, .int .i64 0, .int .i64 0, .int .i64 0, .int .i64 0, .string .empty, .string .empty, .slice none 0 0, .slice none 0 0]) (t := 27)).alloc (o := .cells #[.int .i64 1, .int .i64 31, .int .i64 500, .int .i64 10, .int .i64 2, .int .i64 59, .int .i64 500, .int .i64 5] 55)
  have hr := Bk.Blk.nw21 (W := w) (o0 := .cells #[.int .i64 0, .int .i64 0, .int .i64 0, .int .i64 0, .int .i64 0, .int .i64 0, .int .i64 0, .int .i64 0, .int .i64 0, .int .i64 0, .int .i64 0, .int .i64 0, .int .i64 0, .int .i64 0, .int .i64 0, .int .i64 0, .int .i64 0, .int .i64 0, .int .i64 0, .int .i64 0, .int .i64 0, .string .empty, .string .empty, .slice none 0 0, .slice none 0 0] 27) (cs := #[.int .i64 1, .int .i64 31, .int .i64 500, .int .i64 10, .int .i64 2, .int .i64 59, .int .i64 500, .int .i64 5]) (t := 55)
  go_wp2_with (refine wpList_store_row rfl 27 _ _ rfl _ _ rfl rfl _ _ hz (by kernel_rfl) rfl (one25 ..) ?_)
  refine bodyPost_ret (results_cell_row Tryd.results27 _ _ _ _ _ _ _ rfl (Blk_setRow_same hz) Tryd.underlying27 rfl (by kernel_rfl)) rfl ?_
  exact ⟨_, rfl, ⟨some ⟨w.heap.size + 1, 0, none⟩, 2, none, 0, rfl, ⟨row_of_blkA (xs := twoA.ds) (Blk_setRow_ne hr (by omega)), RowIn.noneA⟩, fun ad had => by cases had; exact (Blk_setRow_ne hr (by omega)).lt⟩, Below_setRow b2 (Nat.le_refl _) _⟩
theorem ov_two {d : Int} (h0 : 31 ≤ d) (h1 : d < 59) : ovL twoA d = 500 := by
  have hd : due twoA.ds d = [⟨1, 31, 500, 10⟩] := by
    unfold due twoA
    rw [List.filter_cons, if_pos (by simpa using h0), List.filter_cons, if_neg (by simp; omega)]
    rfl
  have hp : P [⟨1, 31, 500, 10⟩] = 500 := by kernel_rfl
  unfold ovL oP
  rw [hd, hp, show (500 : Int) - twoA.pp = 500 by decide, wrap_in (by omega) (by omega)]
  decide
theorem wei_two {d : Int} (h0 : 31 ≤ d) (h1 : d < 59) : Cal.wei 3 d = 4380 := by
  have hc : Cal.IsCivil d 2000 2 (d - 30) := ⟨by omega, by omega, by omega, by omega, by omega, by rw [show Cal.mlen 2000 2 = 29 by decide]; omega, by rw [show Cal.begin_ 2000 = 0 by decide, show Cal.cum 2000 2 = 31 by decide]; omega⟩
  rw [Cal.wei_in (by omega) (by omega)]
  unfold Cal.wgt
  rw [if_neg (by omega), if_neg (by omega), if_pos rfl, (Cal.civ_eq hc).1]
  decide
theorem penS_two : ∀ n : Nat, n ≤ 28 → Ln.penS twoA 31 n = n * 219000000000
  | 0, _ => rfl
  | n + 1, h => by
    unfold Ln.penS
    rw [penS_two n (by omega)]
    unfold Ln.penT
    rw [ov_two (by omega) (by omega), wei_two (by omega) (by omega), show twoA.tm.pen = 100000 from rfl]
    omega
theorem chk_two : chk twoA = 0 := by kernel_rfl
theorem pen_two : penV twoA 31 59 = 6132000000000 ∧ penE twoA 31 59 = 0 := by
  have h : penOk twoA 31 59 := ⟨chk_two, by kernel_rfl, by kernel_rfl, by omega, by omega⟩
  refine ⟨?_, if_pos h⟩
  unfold penV
  rw [if_pos h, show ((59 : Int) - 31).toNat = 28 by decide, penS_two 28 (by omega)]
  decide
theorem am_two : Rd.amE 6132000000000 6 = 0 ∧ Rd.amV 6132000000000 6 = 4 := by
  have hk : Rd.rok 1603080000000 6 := ⟨by omega, by omega, by omega⟩
  have hz : Rd.rd 6132000000000 1603080000000 6 = 4 := by kernel_rfl
  have h1 : Rd.rdE 6132000000000 1603080000000 6 = 0 := by rw [(Rd.rd_yes hk).2, hz]; rfl
  have h2 : Rd.rdV 6132000000000 1603080000000 6 = 4 := by rw [(Rd.rdE_0 h1).2.1, hz]
  have := Rd.am_ok h1 (by rw [h2]; exact ⟨by decide, by decide⟩)
  exact ⟨this.1, by rw [this.2.1, h2]⟩
theorem chg_two : chgL twoA 59 = twoA.chd 4 59 ∧ chgN twoA 59 = 4 ∧ chgE twoA 59 = 0 := by
  have hG : chgG twoA 59 = 6132000000000 := pen_two.1
  have hM : chgM twoA 59 = 4 := by unfold chgM; rw [hG]; exact am_two.2
  have e : chgE twoA 59 = 0 := by
    unfold chgE
    rw [if_pos ⟨chk_two, by kernel_rfl⟩, if_pos (show twoA.st = 1 from rfl), if_neg (show ¬ (59 : Int) < twoA.chg by decide), if_pos (show penE twoA twoA.chg 59 = 0 from pen_two.2), hG, hM, if_pos ⟨am_two.1, by decide⟩]
  exact ⟨by unfold chgL; rw [if_pos e, hM], by unfold chgN; rw [if_pos e, hM], e⟩
theorem chg_two30 : chgL twoA 30 = zLoA ∧ chgN twoA 30 = 0 ∧ chgE twoA 30 = 10 := by
  have e : chgE twoA 30 = 10 := by
    unfold chgE
    rw [if_pos ⟨chk_two, by kernel_rfl⟩, if_pos (show twoA.st = 1 from rfl), if_pos (show (30 : Int) < twoA.chg by decide)]
  have := chg_no e (by decide)
  exact ⟨this.2.2, this.2.1, e⟩
theorem days_at {l : Lo} {on d : Int} (h : daysL l on = d) (da ca : Option Addr) (dk ck : Nat) (w : World) (hl : LoInA w l da ca) (hn : l.ds.length ≤ 100000) :
    Calls Tryd.prog 9 #[(.agg #[.int .i64 (l).id, .int .i64 (l).ac, .int .i64 (l).st, .int .i64 (l).pp, .int .i64 (l).pi, .int .i64 (l).fee, .int .i64 (l).pen, .int .i64 (l).chg, .int .i64 (l).prov, .int .i64 (l).loss, .int .i64 (l).rcv, .int .i64 ((l).tm).me, .int .i64 ((l).tm).pr, .int .i64 ((l).tm).ppm, .int .i64 ((l).tm).stt, .int .i64 ((l).tm).ev, .int .i64 ((l).tm).ct, .int .i64 ((l).tm).ba, .int .i64 ((l).tm).mo, .int .i64 ((l).tm).pen, .int .i64 ((l).tm).fe, .string ((l).tm).cal, .string ((l).tm).cur, .slice da (l).ds.length dk, .slice ca (l).cs.length ck]), .int .i64 on] w fun e w' => e = .returned (.int .i64 d) ∧ Below w.heap.size w w' := by
  subst h
  exact days_any l da ca dk ck on w (dues_of_row (by omega) hl.d)
theorem od_at {l : Lo} {on d : Int} (h : ovL l on = d) (da ca : Option Addr) (dk ck : Nat) (w : World) (hl : LoInA w l da ca) (hn : l.ds.length ≤ 100000) :
    Calls Tryd.prog 11 #[(.agg #[.int .i64 (l).id, .int .i64 (l).ac, .int .i64 (l).st, .int .i64 (l).pp, .int .i64 (l).pi, .int .i64 (l).fee, .int .i64 (l).pen, .int .i64 (l).chg, .int .i64 (l).prov, .int .i64 (l).loss, .int .i64 (l).rcv, .int .i64 ((l).tm).me, .int .i64 ((l).tm).pr, .int .i64 ((l).tm).ppm, .int .i64 ((l).tm).stt, .int .i64 ((l).tm).ev, .int .i64 ((l).tm).ct, .int .i64 ((l).tm).ba, .int .i64 ((l).tm).mo, .int .i64 ((l).tm).pen, .int .i64 ((l).tm).fe, .string ((l).tm).cal, .string ((l).tm).cur, .slice da (l).ds.length dk, .slice ca (l).cs.length ck]), .int .i64 on] w fun e w' => e = .returned (.int .i64 d) ∧ Below w.heap.size w w' := by
  subst h
  exact od_any l da ca dk ck on w (dues_of_row (by omega) hl.d)
theorem bk_at {d b : Int} (h : bkt d = b) (w : World) (hC : Ctb w) : Calls Tryd.prog 13 #[.int .i64 d] w fun e w' => e = .returned (.int .i64 b) ∧ w = w' := by
  subst h
  exact bucket_any d w hC
theorem charge_at {l A : Lo} {on D E : Int} (h : chgL l on = A ∧ chgN l on = D ∧ chgE l on = E) (da ca : Option Addr) (dk ck : Nat) (w : World) (hl : LoInA w l da ca) (hn : l.ds.length ≤ 100000) (hm : l.cs.length ≤ 100000) (hSt : Rd.Stp w) :
    Calls Tryd.prog 19 #[(.agg #[.int .i64 (l).id, .int .i64 (l).ac, .int .i64 (l).st, .int .i64 (l).pp, .int .i64 (l).pi, .int .i64 (l).fee, .int .i64 (l).pen, .int .i64 (l).chg, .int .i64 (l).prov, .int .i64 (l).loss, .int .i64 (l).rcv, .int .i64 ((l).tm).me, .int .i64 ((l).tm).pr, .int .i64 ((l).tm).ppm, .int .i64 ((l).tm).stt, .int .i64 ((l).tm).ev, .int .i64 ((l).tm).ct, .int .i64 ((l).tm).ba, .int .i64 ((l).tm).mo, .int .i64 ((l).tm).pen, .int .i64 ((l).tm).fe, .string ((l).tm).cal, .string ((l).tm).cur, .slice da (l).ds.length dk, .slice ca (l).cs.length ck]), .int .i64 on] w (ChP A D E w) := by
  obtain ⟨rfl, rfl, rfl⟩ := h
  exact charge_any l da ca dk ck on w hl hn hm hSt
theorem rmul_at {a b m : Int} (ha : I64 a) (hb : I64 b) (h : a * b = m) (w : World) : Calls Tryd.prog 28 #[.int .i64 a, .int .i64 b] w fun e w' => e = .returned (.agg #[.int .i64 (hi m), .int .u64 (lo m)]) ∧ Below w.heap.size w w' := by
  subst h
  exact Wt.rmul_any a b w ha hb
set_option maxHeartbeats 32000000 in
theorem live37_any (w : World) (hSt : Rd.Stp w) (hC : Ctb w) : Calls Tryd.prog 15 #[] w fun e w' => e = .returned (.bool true) ∧ Below w.heap.size w w' := by
  have HCt := Lib.hid (fun (W : World) (hW : Below w.heap.size w W) => And.intro (hSt.of hW) (hC.of hW))
  clear hSt hC
  obtain ⟨A, hA⟩ : ∃ A, A = twoA.chd 4 59 := ⟨_, rfl⟩
  have HA := Lib.hid (show A.pen = 4 ∧ A.chg = 59 by rw [hA]; exact ⟨rfl, rfl⟩)
  have hc := chg_two
  rw [← hA] at hc
  have HC1 := Lib.hid (charge_at hc)
  have HC2 := Lib.hid (charge_at chg_two30)
  obtain ⟨v, hv⟩ : ∃ v : Int, v = 6132000000000 := ⟨_, rfl⟩
  have hp := pen_two
  rw [← hv] at hp
  have HP := Lib.hid (pen_at hp.1 hp.2)
  have HM := Lib.hid (rmul_at (a := 50000000) (b := 122640) (m := v) (by unfold I64; omega) (by unfold I64; omega) (by rw [hv]; decide))
  clear hA hc hp hv
  have cw := Below.refl w.heap.size w
  go_enter Tryd.func15, Tryd.ntmps15
  go_wp2_with fail
  refine (twoA_any _).mono ?_
  rintro e w1 ⟨vt, rfl, ⟨da1, dk1, ca1, ck1, rfl, ht, hfr⟩, hb⟩
  have cw1 := bl2 hb cw
  clear hb cw
  go_wp2_with fail
  refine (HP.out _ _ _ _ _ (dues_of_row (by show 2 ≤ 2305843009213693951; omega) ht.d)).mono ?_
  rintro e w2 ⟨rfl, hb⟩
  have cw2 := bl2 hb cw1
  clear hb cw1
  clear ht hfr
  go_upto_region 2 with fail
  have hal : Below w2.heap.size w2 (w2.alloc (.cells #[.int .i64 (hi v), .int .u64 (lo v)] 36)) := (Below.refl _ _).alloc (Nat.le_refl _) _
  have k1 := Bk.Blk.nw10 (W := w2) (cs := #[.int .i64 (hi v), .int .u64 (lo v)]) (t := 36)
  have cw3 := bl2 hal cw2
  clear hal cw2
  generalize (w2.alloc (.cells #[.int .i64 (hi v), .int .u64 (lo v)] 36)) = w3 at *
  generalize w2.heap.size = g1 at *
  go_wp2_with fail
  refine (twoA_any _).mono ?_
  rintro e w4 ⟨vt, rfl, ⟨da0, dk0, ca0, ck0, rfl, ht, hfr⟩, hb⟩
  replace k1 := k1.later hb
  have cw4 := bl2 hb cw3
  clear hb cw3
  go_wp2_with fail
  refine (HC1.out _ _ _ _ _ ht (by decide) (by decide) (HCt.out _ cw4).1).mono ?_
  rintro e w5 ⟨da2, dk2, ca2, ck2, rfl, hl2, hb⟩
  replace k1 := k1.later hb
  have cw5 := bl2 hb cw4
  clear hb cw4
  clear ht hl2 hfr
  go_upto_region 3 with (refine wpList_store_row rfl 27 _ _ rfl _ _ rfl rfl _ _ Bk.Blk.nw10 (by kernel_rfl) rfl (one25 ..) ?_)
  have hbs : Below w5.heap.size w5 ((w5.alloc (.cells #[.int .i64 0, .int .i64 0, .int .i64 0, .int .i64 0, .int .i64 0, .int .i64 0, .int .i64 0, .int .i64 0, .int .i64 0, .int .i64 0, .int .i64 0, .int .i64 0, .int .i64 0, .int .i64 0, .int .i64 0, .int .i64 0, .int .i64 0, .int .i64 0, .int .i64 0, .int .i64 0, .int .i64 0, .string { data := #[] }, .string { data := #[] }, .slice none 0 0, .slice none 0 0] 27)).setRow w5.heap.size #[.int .i64 (A).id, .int .i64 (A).ac, .int .i64 (A).st, .int .i64 (A).pp, .int .i64 (A).pi, .int .i64 (A).fee, .int .i64 (A).pen, .int .i64 (A).chg, .int .i64 (A).prov, .int .i64 (A).loss, .int .i64 (A).rcv, .int .i64 ((A).tm).me, .int .i64 ((A).tm).pr, .int .i64 ((A).tm).ppm, .int .i64 ((A).tm).stt, .int .i64 ((A).tm).ev, .int .i64 ((A).tm).ct, .int .i64 ((A).tm).ba, .int .i64 ((A).tm).mo, .int .i64 ((A).tm).pen, .int .i64 ((A).tm).fe, .string ((A).tm).cal, .string ((A).tm).cur, .slice da2 (A).ds.length dk2, .slice ca2 (A).cs.length ck2]) := Below_setRow ((Below.refl _ _).alloc (Nat.le_refl _) _) (Nat.le_refl _) _
  have k2 : Bk.Blk ((w5.alloc (.cells #[.int .i64 0, .int .i64 0, .int .i64 0, .int .i64 0, .int .i64 0, .int .i64 0, .int .i64 0, .int .i64 0, .int .i64 0, .int .i64 0, .int .i64 0, .int .i64 0, .int .i64 0, .int .i64 0, .int .i64 0, .int .i64 0, .int .i64 0, .int .i64 0, .int .i64 0, .int .i64 0, .int .i64 0, .string { data := #[] }, .string { data := #[] }, .slice none 0 0, .slice none 0 0] 27)).setRow w5.heap.size #[.int .i64 (A).id, .int .i64 (A).ac, .int .i64 (A).st, .int .i64 (A).pp, .int .i64 (A).pi, .int .i64 (A).fee, .int .i64 (A).pen, .int .i64 (A).chg, .int .i64 (A).prov, .int .i64 (A).loss, .int .i64 (A).rcv, .int .i64 ((A).tm).me, .int .i64 ((A).tm).pr, .int .i64 ((A).tm).ppm, .int .i64 ((A).tm).stt, .int .i64 ((A).tm).ev, .int .i64 ((A).tm).ct, .int .i64 ((A).tm).ba, .int .i64 ((A).tm).mo, .int .i64 ((A).tm).pen, .int .i64 ((A).tm).fe, .string ((A).tm).cal, .string ((A).tm).cur, .slice da2 (A).ds.length dk2, .slice ca2 (A).cs.length ck2]) w5.heap.size #[.int .i64 (A).id, .int .i64 (A).ac, .int .i64 (A).st, .int .i64 (A).pp, .int .i64 (A).pi, .int .i64 (A).fee, .int .i64 (A).pen, .int .i64 (A).chg, .int .i64 (A).prov, .int .i64 (A).loss, .int .i64 (A).rcv, .int .i64 ((A).tm).me, .int .i64 ((A).tm).pr, .int .i64 ((A).tm).ppm, .int .i64 ((A).tm).stt, .int .i64 ((A).tm).ev, .int .i64 ((A).tm).ct, .int .i64 ((A).tm).ba, .int .i64 ((A).tm).mo, .int .i64 ((A).tm).pen, .int .i64 ((A).tm).fe, .string ((A).tm).cal, .string ((A).tm).cur, .slice da2 (A).ds.length dk2, .slice ca2 (A).cs.length ck2] 27 := Blk_setRow_same Bk.Blk.nw10
  replace k1 := k1.later hbs
  have cw6 := bl2 hbs cw5
  clear cw5 hbs
  generalize ((w5.alloc (.cells #[.int .i64 0, .int .i64 0, .int .i64 0, .int .i64 0, .int .i64 0, .int .i64 0, .int .i64 0, .int .i64 0, .int .i64 0, .int .i64 0, .int .i64 0, .int .i64 0, .int .i64 0, .int .i64 0, .int .i64 0, .int .i64 0, .int .i64 0, .int .i64 0, .int .i64 0, .int .i64 0, .int .i64 0, .string { data := #[] }, .string { data := #[] }, .slice none 0 0, .slice none 0 0] 27)).setRow w5.heap.size #[.int .i64 (A).id, .int .i64 (A).ac, .int .i64 (A).st, .int .i64 (A).pp, .int .i64 (A).pi, .int .i64 (A).fee, .int .i64 (A).pen, .int .i64 (A).chg, .int .i64 (A).prov, .int .i64 (A).loss, .int .i64 (A).rcv, .int .i64 ((A).tm).me, .int .i64 ((A).tm).pr, .int .i64 ((A).tm).ppm, .int .i64 ((A).tm).stt, .int .i64 ((A).tm).ev, .int .i64 ((A).tm).ct, .int .i64 ((A).tm).ba, .int .i64 ((A).tm).mo, .int .i64 ((A).tm).pen, .int .i64 ((A).tm).fe, .string ((A).tm).cal, .string ((A).tm).cur, .slice da2 (A).ds.length dk2, .slice ca2 (A).cs.length ck2]) = w6 at *
  generalize w5.heap.size = g2 at *
  have gA := HA.out
  go_wp2_with fail
  refine (twoA_any _).mono ?_
  rintro e w7 ⟨vt, rfl, ⟨da3, dk3, ca3, ck3, rfl, ht, hfr⟩, hb⟩
  replace k1 := k1.later hb
  replace k2 := k2.later hb
  have cw7 := bl2 hb cw6
  clear hb cw6
  have hl3 := ht
  have hf3 : ∀ ad, da3 = some ad → ad.block ≠ w7.heap.size := fun ad had => by have := hfr ad had; omega
  clear ht hfr
  have hne : g1 < w7.heap.size ∧ g2 < w7.heap.size ∧ w.heap.size ≤ w7.heap.size := ⟨k1.lt, k2.lt, cw7.size⟩
  go_upto_region 4 with (refine wpList_store_row rfl 27 _ _ rfl _ _ rfl rfl _ _ Bk.Blk.nw10 (by kernel_rfl) rfl (one25 ..) ?_)
  have hbs : Below w7.heap.size w7 ((w7.alloc (.cells #[.int .i64 0, .int .i64 0, .int .i64 0, .int .i64 0, .int .i64 0, .int .i64 0, .int .i64 0, .int .i64 0, .int .i64 0, .int .i64 0, .int .i64 0, .int .i64 0, .int .i64 0, .int .i64 0, .int .i64 0, .int .i64 0, .int .i64 0, .int .i64 0, .int .i64 0, .int .i64 0, .int .i64 0, .string { data := #[] }, .string { data := #[] }, .slice none 0 0, .slice none 0 0] 27)).setRow w7.heap.size #[.int .i64 (twoA).id, .int .i64 (twoA).ac, .int .i64 (twoA).st, .int .i64 (twoA).pp, .int .i64 (twoA).pi, .int .i64 (twoA).fee, .int .i64 (twoA).pen, .int .i64 (twoA).chg, .int .i64 (twoA).prov, .int .i64 (twoA).loss, .int .i64 (twoA).rcv, .int .i64 ((twoA).tm).me, .int .i64 ((twoA).tm).pr, .int .i64 ((twoA).tm).ppm, .int .i64 ((twoA).tm).stt, .int .i64 ((twoA).tm).ev, .int .i64 ((twoA).tm).ct, .int .i64 ((twoA).tm).ba, .int .i64 ((twoA).tm).mo, .int .i64 ((twoA).tm).pen, .int .i64 ((twoA).tm).fe, .string ((twoA).tm).cal, .string ((twoA).tm).cur, .slice da3 (twoA).ds.length dk3, .slice ca3 (twoA).cs.length ck3]) := Below_setRow ((Below.refl _ _).alloc (Nat.le_refl _) _) (Nat.le_refl _) _
  have k3 : Bk.Blk ((w7.alloc (.cells #[.int .i64 0, .int .i64 0, .int .i64 0, .int .i64 0, .int .i64 0, .int .i64 0, .int .i64 0, .int .i64 0, .int .i64 0, .int .i64 0, .int .i64 0, .int .i64 0, .int .i64 0, .int .i64 0, .int .i64 0, .int .i64 0, .int .i64 0, .int .i64 0, .int .i64 0, .int .i64 0, .int .i64 0, .string { data := #[] }, .string { data := #[] }, .slice none 0 0, .slice none 0 0] 27)).setRow w7.heap.size #[.int .i64 (twoA).id, .int .i64 (twoA).ac, .int .i64 (twoA).st, .int .i64 (twoA).pp, .int .i64 (twoA).pi, .int .i64 (twoA).fee, .int .i64 (twoA).pen, .int .i64 (twoA).chg, .int .i64 (twoA).prov, .int .i64 (twoA).loss, .int .i64 (twoA).rcv, .int .i64 ((twoA).tm).me, .int .i64 ((twoA).tm).pr, .int .i64 ((twoA).tm).ppm, .int .i64 ((twoA).tm).stt, .int .i64 ((twoA).tm).ev, .int .i64 ((twoA).tm).ct, .int .i64 ((twoA).tm).ba, .int .i64 ((twoA).tm).mo, .int .i64 ((twoA).tm).pen, .int .i64 ((twoA).tm).fe, .string ((twoA).tm).cal, .string ((twoA).tm).cur, .slice da3 (twoA).ds.length dk3, .slice ca3 (twoA).cs.length ck3]) w7.heap.size #[.int .i64 (twoA).id, .int .i64 (twoA).ac, .int .i64 (twoA).st, .int .i64 (twoA).pp, .int .i64 (twoA).pi, .int .i64 (twoA).fee, .int .i64 (twoA).pen, .int .i64 (twoA).chg, .int .i64 (twoA).prov, .int .i64 (twoA).loss, .int .i64 (twoA).rcv, .int .i64 ((twoA).tm).me, .int .i64 ((twoA).tm).pr, .int .i64 ((twoA).tm).ppm, .int .i64 ((twoA).tm).stt, .int .i64 ((twoA).tm).ev, .int .i64 ((twoA).tm).ct, .int .i64 ((twoA).tm).ba, .int .i64 ((twoA).tm).mo, .int .i64 ((twoA).tm).pen, .int .i64 ((twoA).tm).fe, .string ((twoA).tm).cal, .string ((twoA).tm).cur, .slice da3 (twoA).ds.length dk3, .slice ca3 (twoA).cs.length ck3] 27 := Blk_setRow_same Bk.Blk.nw10
  replace k1 := k1.later hbs
  replace k2 := k2.later hbs
  replace hl3 := hl3.later hbs
  have cw8 := bl2 hbs cw7
  clear cw7 hbs
  generalize ((w7.alloc (.cells #[.int .i64 0, .int .i64 0, .int .i64 0, .int .i64 0, .int .i64 0, .int .i64 0, .int .i64 0, .int .i64 0, .int .i64 0, .int .i64 0, .int .i64 0, .int .i64 0, .int .i64 0, .int .i64 0, .int .i64 0, .int .i64 0, .int .i64 0, .int .i64 0, .int .i64 0, .int .i64 0, .int .i64 0, .string { data := #[] }, .string { data := #[] }, .slice none 0 0, .slice none 0 0] 27)).setRow w7.heap.size #[.int .i64 (twoA).id, .int .i64 (twoA).ac, .int .i64 (twoA).st, .int .i64 (twoA).pp, .int .i64 (twoA).pi, .int .i64 (twoA).fee, .int .i64 (twoA).pen, .int .i64 (twoA).chg, .int .i64 (twoA).prov, .int .i64 (twoA).loss, .int .i64 (twoA).rcv, .int .i64 ((twoA).tm).me, .int .i64 ((twoA).tm).pr, .int .i64 ((twoA).tm).ppm, .int .i64 ((twoA).tm).stt, .int .i64 ((twoA).tm).ev, .int .i64 ((twoA).tm).ct, .int .i64 ((twoA).tm).ba, .int .i64 ((twoA).tm).mo, .int .i64 ((twoA).tm).pen, .int .i64 ((twoA).tm).fe, .string ((twoA).tm).cal, .string ((twoA).tm).cur, .slice da3 (twoA).ds.length dk3, .slice ca3 (twoA).cs.length ck3]) = w8 at *
  generalize w7.heap.size = g3 at *
  have l33 := k3.c3
  have l34 := k3.c4
  have f33 := k3.f3
  have f34 := k3.f4
  go_upto_region 5 with fail
  have cw9 : Below w.heap.size w ((w8.setCell ⟨g3, 3, none⟩ (.int .i64 500)).setCell ⟨g3, 4, none⟩ (.int .i64 10)) := (cw8.setCell (show w.heap.size ≤ g3 by omega) _).setCell (show w.heap.size ≤ g3 by omega) _
  replace k1 := (k1.set_ne (g' := g3) (j := 3) (u := .int .i64 500) (by omega)).set_ne (g' := g3) (j := 4) (u := .int .i64 10) (by omega)
  replace k2 := (k2.set_ne (g' := g3) (j := 3) (u := .int .i64 500) (by omega)).set_ne (g' := g3) (j := 4) (u := .int .i64 10) (by omega)
  have k3x : Bk.Blk ((w8.setCell ⟨g3, 3, none⟩ (.int .i64 500)).setCell ⟨g3, 4, none⟩ (.int .i64 10)) g3 #[.int .i64 (twoX).id, .int .i64 (twoX).ac, .int .i64 (twoX).st, .int .i64 (twoX).pp, .int .i64 (twoX).pi, .int .i64 (twoX).fee, .int .i64 (twoX).pen, .int .i64 (twoX).chg, .int .i64 (twoX).prov, .int .i64 (twoX).loss, .int .i64 (twoX).rcv, .int .i64 ((twoX).tm).me, .int .i64 ((twoX).tm).pr, .int .i64 ((twoX).tm).ppm, .int .i64 ((twoX).tm).stt, .int .i64 ((twoX).tm).ev, .int .i64 ((twoX).tm).ct, .int .i64 ((twoX).tm).ba, .int .i64 ((twoX).tm).mo, .int .i64 ((twoX).tm).pen, .int .i64 ((twoX).tm).fe, .string ((twoX).tm).cal, .string ((twoX).tm).cur, .slice da3 (twoX).ds.length dk3, .slice ca3 (twoX).cs.length ck3] 27 := ((k3.set_same (i := 3) (u := .int .i64 500)).set_same (i := 4) (u := .int .i64 10)).conv rfl
  have hlx : LoInA ((w8.setCell ⟨g3, 3, none⟩ (.int .i64 500)).setCell ⟨g3, 4, none⟩ (.int .i64 10)) twoX da3 ca3 := ⟨hl3.d.blk (fun ad had => (Below.heap_setCell _ _ _ _ (hf3 ad had)).trans (Below.heap_setCell _ _ _ _ (hf3 ad had))), RowIn.noneA⟩
  clear k3 l33 l34 f33 f34 cw8 hl3 hf3
  generalize ((w8.setCell ⟨g3, 3, none⟩ (.int .i64 500)).setCell ⟨g3, 4, none⟩ (.int .i64 10)) = w9 at *
  go_wp2_with fail
  refine (twoA_any _).mono ?_
  rintro e wa ⟨vt, rfl, ⟨da0, dk0, ca0, ck0, rfl, ht, hfr⟩, hb⟩
  replace k1 := k1.later hb
  replace k2 := k2.later hb
  replace k3x := k3x.later hb
  replace hlx := hlx.later hb
  have cwa := bl2 hb cw9
  clear hb cw9
  go_wp2_with fail
  refine (HC2.out _ _ _ _ _ ht (by decide) (by decide) (HCt.out _ cwa).1).mono ?_
  rintro e wb ⟨da4, dk4, ca4, ck4, rfl, hl4, hb⟩
  replace k1 := k1.later hb
  replace k2 := k2.later hb
  replace k3x := k3x.later hb
  replace hlx := hlx.later hb
  have cwb := bl2 hb cwa
  clear hb cwa
  clear ht hl4 hfr
  go_upto_region 6 with (refine wpList_store_row rfl 27 _ _ rfl _ _ rfl rfl _ _ Bk.Blk.nw10 (by kernel_rfl) rfl (one25 ..) ?_)
  have hbs : Below wb.heap.size wb ((wb.alloc (.cells #[.int .i64 0, .int .i64 0, .int .i64 0, .int .i64 0, .int .i64 0, .int .i64 0, .int .i64 0, .int .i64 0, .int .i64 0, .int .i64 0, .int .i64 0, .int .i64 0, .int .i64 0, .int .i64 0, .int .i64 0, .int .i64 0, .int .i64 0, .int .i64 0, .int .i64 0, .int .i64 0, .int .i64 0, .string { data := #[] }, .string { data := #[] }, .slice none 0 0, .slice none 0 0] 27)).setRow wb.heap.size #[.int .i64 (zLoA).id, .int .i64 (zLoA).ac, .int .i64 (zLoA).st, .int .i64 (zLoA).pp, .int .i64 (zLoA).pi, .int .i64 (zLoA).fee, .int .i64 (zLoA).pen, .int .i64 (zLoA).chg, .int .i64 (zLoA).prov, .int .i64 (zLoA).loss, .int .i64 (zLoA).rcv, .int .i64 ((zLoA).tm).me, .int .i64 ((zLoA).tm).pr, .int .i64 ((zLoA).tm).ppm, .int .i64 ((zLoA).tm).stt, .int .i64 ((zLoA).tm).ev, .int .i64 ((zLoA).tm).ct, .int .i64 ((zLoA).tm).ba, .int .i64 ((zLoA).tm).mo, .int .i64 ((zLoA).tm).pen, .int .i64 ((zLoA).tm).fe, .string ((zLoA).tm).cal, .string ((zLoA).tm).cur, .slice da4 (zLoA).ds.length dk4, .slice ca4 (zLoA).cs.length ck4]) := Below_setRow ((Below.refl _ _).alloc (Nat.le_refl _) _) (Nat.le_refl _) _
  have k4 : Bk.Blk ((wb.alloc (.cells #[.int .i64 0, .int .i64 0, .int .i64 0, .int .i64 0, .int .i64 0, .int .i64 0, .int .i64 0, .int .i64 0, .int .i64 0, .int .i64 0, .int .i64 0, .int .i64 0, .int .i64 0, .int .i64 0, .int .i64 0, .int .i64 0, .int .i64 0, .int .i64 0, .int .i64 0, .int .i64 0, .int .i64 0, .string { data := #[] }, .string { data := #[] }, .slice none 0 0, .slice none 0 0] 27)).setRow wb.heap.size #[.int .i64 (zLoA).id, .int .i64 (zLoA).ac, .int .i64 (zLoA).st, .int .i64 (zLoA).pp, .int .i64 (zLoA).pi, .int .i64 (zLoA).fee, .int .i64 (zLoA).pen, .int .i64 (zLoA).chg, .int .i64 (zLoA).prov, .int .i64 (zLoA).loss, .int .i64 (zLoA).rcv, .int .i64 ((zLoA).tm).me, .int .i64 ((zLoA).tm).pr, .int .i64 ((zLoA).tm).ppm, .int .i64 ((zLoA).tm).stt, .int .i64 ((zLoA).tm).ev, .int .i64 ((zLoA).tm).ct, .int .i64 ((zLoA).tm).ba, .int .i64 ((zLoA).tm).mo, .int .i64 ((zLoA).tm).pen, .int .i64 ((zLoA).tm).fe, .string ((zLoA).tm).cal, .string ((zLoA).tm).cur, .slice da4 (zLoA).ds.length dk4, .slice ca4 (zLoA).cs.length ck4]) wb.heap.size #[.int .i64 (zLoA).id, .int .i64 (zLoA).ac, .int .i64 (zLoA).st, .int .i64 (zLoA).pp, .int .i64 (zLoA).pi, .int .i64 (zLoA).fee, .int .i64 (zLoA).pen, .int .i64 (zLoA).chg, .int .i64 (zLoA).prov, .int .i64 (zLoA).loss, .int .i64 (zLoA).rcv, .int .i64 ((zLoA).tm).me, .int .i64 ((zLoA).tm).pr, .int .i64 ((zLoA).tm).ppm, .int .i64 ((zLoA).tm).stt, .int .i64 ((zLoA).tm).ev, .int .i64 ((zLoA).tm).ct, .int .i64 ((zLoA).tm).ba, .int .i64 ((zLoA).tm).mo, .int .i64 ((zLoA).tm).pen, .int .i64 ((zLoA).tm).fe, .string ((zLoA).tm).cal, .string ((zLoA).tm).cur, .slice da4 (zLoA).ds.length dk4, .slice ca4 (zLoA).cs.length ck4] 27 := Blk_setRow_same Bk.Blk.nw10
  replace k1 := k1.later hbs
  replace k2 := k2.later hbs
  replace k3x := k3x.later hbs
  replace hlx := hlx.later hbs
  have cwc := bl2 hbs cwb
  clear cwb hbs
  generalize ((wb.alloc (.cells #[.int .i64 0, .int .i64 0, .int .i64 0, .int .i64 0, .int .i64 0, .int .i64 0, .int .i64 0, .int .i64 0, .int .i64 0, .int .i64 0, .int .i64 0, .int .i64 0, .int .i64 0, .int .i64 0, .int .i64 0, .int .i64 0, .int .i64 0, .int .i64 0, .int .i64 0, .int .i64 0, .int .i64 0, .string { data := #[] }, .string { data := #[] }, .slice none 0 0, .slice none 0 0] 27)).setRow wb.heap.size #[.int .i64 (zLoA).id, .int .i64 (zLoA).ac, .int .i64 (zLoA).st, .int .i64 (zLoA).pp, .int .i64 (zLoA).pi, .int .i64 (zLoA).fee, .int .i64 (zLoA).pen, .int .i64 (zLoA).chg, .int .i64 (zLoA).prov, .int .i64 (zLoA).loss, .int .i64 (zLoA).rcv, .int .i64 ((zLoA).tm).me, .int .i64 ((zLoA).tm).pr, .int .i64 ((zLoA).tm).ppm, .int .i64 ((zLoA).tm).stt, .int .i64 ((zLoA).tm).ev, .int .i64 ((zLoA).tm).ct, .int .i64 ((zLoA).tm).ba, .int .i64 ((zLoA).tm).mo, .int .i64 ((zLoA).tm).pen, .int .i64 ((zLoA).tm).fe, .string ((zLoA).tm).cal, .string ((zLoA).tm).cur, .slice da4 (zLoA).ds.length dk4, .slice ca4 (zLoA).cs.length ck4]) = wc at *
  generalize wb.heap.size = g4 at *
  clear k4
  have hS0 : SB wc wc.drew := (Below.refl _ _).drew
  refine wp_region_held_drew (S := SB wc) (by kernel_rfl) hS0 (fun hS => ?_)
  clear hS0
  refine call_at 0 (by decide) (Pi := LoanV twoA) (by kernel_rfl) (by rfl) (by simp only [List.getElem_cons_zero, List.getElem_cons_succ]; go_simp; first | done | rfl | exact ⟨rfl, rfl⟩) (call_pv SB.mono hS (twoA_any _)) ?_
  clear hS
  rintro x1 u hS ⟨d5, k5, c5, e5, rfl, ht, _⟩
  simp only [List.getElem_cons_zero, List.getElem_cons_succ, Act.put, List.setIfInBounds_toArray, List.set_cons_zero, List.set_cons_succ]
  refine call_at 1 (by decide) (Pi := (fun vv _ => vv = .int .i64 9)) (by kernel_rfl) (by rfl) (by simp only [List.getElem_cons_zero, List.getElem_cons_succ]; go_simp; first | done | rfl | exact ⟨rfl, rfl⟩) (call_one SB.mono hS (days_at (d := 9) (by kernel_rfl) d5 c5 k5 e5 _ ht (by decide))) ?_
  clear hS
  rintro x2 u hS rfl
  simp only [List.getElem_cons_zero, List.getElem_cons_succ, Act.put, List.setIfInBounds_toArray, List.set_cons_zero, List.set_cons_succ]
  clear ht
  refine take_at 2 (by decide) (v := ?_) (by kernel_rfl) (by kernel_rfl) (by kernel_rfl) (fun _ _ _ h => h) hS (Or.inl ⟨by rfl, ?_⟩) ?_
  rotate_left
  · intro W hW
    skip
    clear hW
    simp only [List.getElem_cons_zero, List.getElem_cons_succ]
    go_simp
    first | done | with_reducible rfl
  simp only [List.getElem_cons_zero, List.getElem_cons_succ, Act.put, List.setIfInBounds_toArray, List.set_cons_zero, List.set_cons_succ]
  refine take_at 3 (by decide) (v := ?_) (by kernel_rfl) (by kernel_rfl) (by kernel_rfl) (fun _ _ _ h => h) hS (Or.inl ⟨by rfl, ?_⟩) ?_
  rotate_left
  · intro W hW
    skip
    clear hW
    simp only [List.getElem_cons_zero, List.getElem_cons_succ]
    go_simp
    first | done | with_reducible rfl
  simp only [List.getElem_cons_zero, List.getElem_cons_succ, Act.put, List.setIfInBounds_toArray, List.set_cons_zero, List.set_cons_succ]
  refine call_at 4 (by decide) (Pi := LoanV twoA) (by kernel_rfl) (by rfl) (by simp only [List.getElem_cons_zero, List.getElem_cons_succ]; go_simp; first | done | rfl | exact ⟨rfl, rfl⟩) (call_pv SB.mono hS (twoA_any _)) ?_
  clear hS
  rintro x3 u hS ⟨d5, k5, c5, e5, rfl, ht, _⟩
  simp only [List.getElem_cons_zero, List.getElem_cons_succ, Act.put, List.setIfInBounds_toArray, List.set_cons_zero, List.set_cons_succ]
  refine call_at 5 (by decide) (Pi := (fun vv _ => vv = .int .i64 500)) (by kernel_rfl) (by rfl) (by simp only [List.getElem_cons_zero, List.getElem_cons_succ]; go_simp; first | done | rfl | exact ⟨rfl, rfl⟩) (call_one SB.mono hS (od_at (ov_two (by omega) (by omega)) d5 c5 k5 e5 _ ht (by decide))) ?_
  clear hS
  rintro x4 u hS rfl
  simp only [List.getElem_cons_zero, List.getElem_cons_succ, Act.put, List.setIfInBounds_toArray, List.set_cons_zero, List.set_cons_succ]
  clear ht
  refine take_at 6 (by decide) (v := ?_) (by kernel_rfl) (by kernel_rfl) (by kernel_rfl) (fun _ _ _ h => h) hS (Or.inl ⟨by rfl, ?_⟩) ?_
  rotate_left
  · intro W hW
    skip
    clear hW
    simp only [List.getElem_cons_zero, List.getElem_cons_succ]
    go_simp
    first | done | with_reducible rfl
  simp only [List.getElem_cons_zero, List.getElem_cons_succ, Act.put, List.setIfInBounds_toArray, List.set_cons_zero, List.set_cons_succ]
  refine take_at 7 (by decide) (v := ?_) (by kernel_rfl) (by kernel_rfl) (by kernel_rfl) (fun _ _ _ h => h) hS (Or.inl ⟨by rfl, ?_⟩) ?_
  rotate_left
  · intro W hW
    skip
    clear hW
    simp only [List.getElem_cons_zero, List.getElem_cons_succ]
    go_simp
    first | done | with_reducible rfl
  simp only [List.getElem_cons_zero, List.getElem_cons_succ, Act.put, List.setIfInBounds_toArray, List.set_cons_zero, List.set_cons_succ]
  refine take_at 8 (by decide) (v := ?_) (by kernel_rfl) (by kernel_rfl) (by kernel_rfl) (fun _ _ _ h => h) hS (Or.inl ⟨by rfl, ?_⟩) ?_
  rotate_left
  · intro W hW
    skip
    clear hW
    simp only [List.getElem_cons_zero, List.getElem_cons_succ]
    go_simp
    first | done | with_reducible rfl
  simp only [List.getElem_cons_zero, List.getElem_cons_succ, Act.put, List.setIfInBounds_toArray, List.set_cons_zero, List.set_cons_succ]
  refine call_at 9 (by decide) (Pi := (fun vv _ => vv = .int .i64 1)) (by kernel_rfl) (by rfl) (by simp only [List.getElem_cons_zero, List.getElem_cons_succ]; go_simp; first | done | rfl | exact ⟨rfl, rfl⟩) (call_keep hS (bk_at (b := 1) (by decide) _ (HCt.out _ (bl2 hS cwc)).2)) ?_
  clear hS
  rintro x5 u hS rfl
  simp only [List.getElem_cons_zero, List.getElem_cons_succ, Act.put, List.setIfInBounds_toArray, List.set_cons_zero, List.set_cons_succ]
  refine take_at 10 (by decide) (v := ?_) (by kernel_rfl) (by kernel_rfl) (by kernel_rfl) (fun _ _ _ h => h) hS (Or.inl ⟨by rfl, ?_⟩) ?_
  rotate_left
  · intro W hW
    skip
    clear hW
    simp only [List.getElem_cons_zero, List.getElem_cons_succ]
    go_simp
    first | done | with_reducible rfl
  simp only [List.getElem_cons_zero, List.getElem_cons_succ, Act.put, List.setIfInBounds_toArray, List.set_cons_zero, List.set_cons_succ]
  refine take_at 11 (by decide) (v := ?_) (by kernel_rfl) (by kernel_rfl) (by kernel_rfl) (fun _ _ _ h => h) hS (Or.inl ⟨by rfl, ?_⟩) ?_
  rotate_left
  · intro W hW
    skip
    clear hW
    simp only [List.getElem_cons_zero, List.getElem_cons_succ]
    go_simp
    first | done | with_reducible rfl
  simp only [List.getElem_cons_zero, List.getElem_cons_succ, Act.put, List.setIfInBounds_toArray, List.set_cons_zero, List.set_cons_succ]
  refine take_at 12 (by decide) (v := ?_) (by kernel_rfl) (by kernel_rfl) (by kernel_rfl) (fun _ _ _ h => h) hS (Or.inl ⟨by rfl, ?_⟩) ?_
  rotate_left
  · intro W hW
    skip
    clear hW
    simp only [List.getElem_cons_zero, List.getElem_cons_succ]
    go_simp
    first | done | with_reducible rfl
  simp only [List.getElem_cons_zero, List.getElem_cons_succ, Act.put, List.setIfInBounds_toArray, List.set_cons_zero, List.set_cons_succ]
  refine call_at 13 (by decide) (Pi := (fun vv _ => vv = .int .i64 4)) (by kernel_rfl) (by rfl) (by simp only [List.getElem_cons_zero, List.getElem_cons_succ]; go_simp; first | done | rfl | exact ⟨rfl, rfl⟩) (call_keep hS (bk_at (b := 4) (by decide) _ (HCt.out _ (bl2 hS cwc)).2)) ?_
  clear hS
  rintro x6 u hS rfl
  simp only [List.getElem_cons_zero, List.getElem_cons_succ, Act.put, List.setIfInBounds_toArray, List.set_cons_zero, List.set_cons_succ]
  refine take_at 14 (by decide) (v := ?_) (by kernel_rfl) (by kernel_rfl) (by kernel_rfl) (fun _ _ _ h => h) hS (Or.inl ⟨by rfl, ?_⟩) ?_
  rotate_left
  · intro W hW
    skip
    clear hW
    simp only [List.getElem_cons_zero, List.getElem_cons_succ]
    go_simp
    first | done | with_reducible rfl
  simp only [List.getElem_cons_zero, List.getElem_cons_succ, Act.put, List.setIfInBounds_toArray, List.set_cons_zero, List.set_cons_succ]
  refine take_at 15 (by decide) (v := ?_) (by kernel_rfl) (by kernel_rfl) (by kernel_rfl) (fun _ _ _ h => h) hS (Or.inl ⟨by rfl, ?_⟩) ?_
  rotate_left
  · intro W hW
    skip
    clear hW
    simp only [List.getElem_cons_zero, List.getElem_cons_succ]
    go_simp
    first | done | with_reducible rfl
  simp only [List.getElem_cons_zero, List.getElem_cons_succ, Act.put, List.setIfInBounds_toArray, List.set_cons_zero, List.set_cons_succ]
  refine take_at 16 (by decide) (v := ?_) (by kernel_rfl) (by kernel_rfl) (by kernel_rfl) (fun _ _ _ h => h) hS (Or.inl ⟨by rfl, ?_⟩) ?_
  rotate_left
  · intro W hW
    skip
    clear hW
    simp only [List.getElem_cons_zero, List.getElem_cons_succ]
    go_simp
    first | done | with_reducible rfl
  simp only [List.getElem_cons_zero, List.getElem_cons_succ, Act.put, List.setIfInBounds_toArray, List.set_cons_zero, List.set_cons_succ]
  refine call_at 17 (by decide) (Pi := LoanV twoA) (by kernel_rfl) (by rfl) (by simp only [List.getElem_cons_zero, List.getElem_cons_succ]; go_simp; first | done | rfl | exact ⟨rfl, rfl⟩) (call_pv SB.mono hS (twoA_any _)) ?_
  clear hS
  rintro x7 u hS ⟨d5, k5, c5, e5, rfl, ht, _⟩
  simp only [List.getElem_cons_zero, List.getElem_cons_succ, Act.put, List.setIfInBounds_toArray, List.set_cons_zero, List.set_cons_succ]
  refine call_at 18 (by decide) (Pi := (fun vv _ => vv = .int .i64 0)) (by kernel_rfl) (by rfl) (by simp only [List.getElem_cons_zero, List.getElem_cons_succ]; go_simp; first | done | rfl | exact ⟨rfl, rfl⟩) (call_one SB.mono hS (days_at (d := 0) (by kernel_rfl) d5 c5 k5 e5 _ ht (by decide))) ?_
  clear hS
  rintro x8 u hS rfl
  simp only [List.getElem_cons_zero, List.getElem_cons_succ, Act.put, List.setIfInBounds_toArray, List.set_cons_zero, List.set_cons_succ]
  clear ht
  refine take_at 19 (by decide) (v := ?_) (by kernel_rfl) (by kernel_rfl) (by kernel_rfl) (fun _ _ _ h => h) hS (Or.inl ⟨by rfl, ?_⟩) ?_
  rotate_left
  · intro W hW
    skip
    clear hW
    simp only [List.getElem_cons_zero, List.getElem_cons_succ]
    go_simp
    first | done | with_reducible rfl
  simp only [List.getElem_cons_zero, List.getElem_cons_succ, Act.put, List.setIfInBounds_toArray, List.set_cons_zero, List.set_cons_succ]
  refine take_at 20 (by decide) (v := ?_) (by kernel_rfl) (by kernel_rfl) (by kernel_rfl) (fun _ _ _ h => h) hS (Or.inl ⟨by rfl, ?_⟩) ?_
  rotate_left
  · intro W hW
    skip
    clear hW
    simp only [List.getElem_cons_zero, List.getElem_cons_succ]
    go_simp
    first | done | with_reducible rfl
  simp only [List.getElem_cons_zero, List.getElem_cons_succ, Act.put, List.setIfInBounds_toArray, List.set_cons_zero, List.set_cons_succ]
  refine take_at 21 (by decide) (v := ?_) (by kernel_rfl) (by kernel_rfl) (by kernel_rfl) (fun _ _ _ h => h) hS (Or.inl ⟨by rfl, ?_⟩) ?_
  rotate_left
  · intro W hW
    skip
    clear hW
    simp only [List.getElem_cons_zero, List.getElem_cons_succ]
    go_simp
    first | done | with_reducible rfl
  simp only [List.getElem_cons_zero, List.getElem_cons_succ, Act.put, List.setIfInBounds_toArray, List.set_cons_zero, List.set_cons_succ]
  refine take_at 22 (by decide) (by kernel_rfl) (by kernel_rfl) (by kernel_rfl) (fun _ _ _ h => h) hS (yields_load_row (by rfl) 27 (.tmp 6) rfl g3 rfl _ _ _ _ (fun W hW => (k3x.later hW)) Tryd.underlying27 rfl (by kernel_rfl)) ?_
  simp only [List.getElem_cons_zero, List.getElem_cons_succ, Act.put, List.setIfInBounds_toArray, List.set_cons_zero, List.set_cons_succ]
  refine call_at 23 (by decide) (Pi := (fun vv _ => vv = .int .i64 0)) (by kernel_rfl) (by rfl) (by simp only [List.getElem_cons_zero, List.getElem_cons_succ]; go_simp; first | done | rfl | exact ⟨rfl, rfl⟩) (call_one SB.mono hS (days_at (l := twoX) (d := 0) (by kernel_rfl) da3 ca3 dk3 ck3 _ (hlx.later hS) (by decide))) ?_
  clear hS
  rintro x9 u hS rfl
  simp only [List.getElem_cons_zero, List.getElem_cons_succ, Act.put, List.setIfInBounds_toArray, List.set_cons_zero, List.set_cons_succ]
  refine take_at 24 (by decide) (v := ?_) (by kernel_rfl) (by kernel_rfl) (by kernel_rfl) (fun _ _ _ h => h) hS (Or.inl ⟨by rfl, ?_⟩) ?_
  rotate_left
  · intro W hW
    skip
    clear hW
    simp only [List.getElem_cons_zero, List.getElem_cons_succ]
    go_simp
    first | done | with_reducible rfl
  simp only [List.getElem_cons_zero, List.getElem_cons_succ, Act.put, List.setIfInBounds_toArray, List.set_cons_zero, List.set_cons_succ]
  refine take_at 25 (by decide) (v := ?_) (by kernel_rfl) (by kernel_rfl) (by kernel_rfl) (fun _ _ _ h => h) hS (Or.inl ⟨by rfl, ?_⟩) ?_
  rotate_left
  · intro W hW
    skip
    clear hW
    simp only [List.getElem_cons_zero, List.getElem_cons_succ]
    go_simp
    first | done | with_reducible rfl
  simp only [List.getElem_cons_zero, List.getElem_cons_succ, Act.put, List.setIfInBounds_toArray, List.set_cons_zero, List.set_cons_succ]
  refine take_at 26 (by decide) (v := ?_) (by kernel_rfl) (by kernel_rfl) (by kernel_rfl) (fun _ _ _ h => h) hS (Or.inl ⟨by rfl, ?_⟩) ?_
  rotate_left
  · intro W hW
    skip
    clear hW
    simp only [List.getElem_cons_zero, List.getElem_cons_succ]
    go_simp
    first | done | with_reducible rfl
  simp only [List.getElem_cons_zero, List.getElem_cons_succ, Act.put, List.setIfInBounds_toArray, List.set_cons_zero, List.set_cons_succ]
  refine take_at 27 (by decide) (v := ?_) (by kernel_rfl) (by kernel_rfl) (by kernel_rfl) (fun _ _ _ h => h) hS (Or.inl ⟨by rfl, ?_⟩) ?_
  rotate_left
  · intro W hW
    skip
    clear hW
    simp only [List.getElem_cons_zero, List.getElem_cons_succ]
    go_simp
    first | done | with_reducible rfl
  simp only [List.getElem_cons_zero, List.getElem_cons_succ, Act.put, List.setIfInBounds_toArray, List.set_cons_zero, List.set_cons_succ]
  refine take_at 28 (by decide) (v := ?_) (by kernel_rfl) (by kernel_rfl) (by kernel_rfl) (fun _ _ _ h => h) hS (Or.inl ⟨by rfl, ?_⟩) ?_
  rotate_left
  · intro W hW
    skip
    clear hW
    simp only [List.getElem_cons_zero, List.getElem_cons_succ]
    go_simp
    first | done | with_reducible rfl
  simp only [List.getElem_cons_zero, List.getElem_cons_succ, Act.put, List.setIfInBounds_toArray, List.set_cons_zero, List.set_cons_succ]
  refine take_at 29 (by decide) (v := ?_) (by kernel_rfl) (by kernel_rfl) (by kernel_rfl) (fun _ _ _ h => h) hS (Or.inl ⟨by rfl, ?_⟩) ?_
  rotate_left
  · intro W hW
    skip
    clear hW
    simp only [List.getElem_cons_zero, List.getElem_cons_succ]
    go_simp
    first | done | with_reducible rfl
  simp only [List.getElem_cons_zero, List.getElem_cons_succ, Act.put, List.setIfInBounds_toArray, List.set_cons_zero, List.set_cons_succ]
  refine take_at 30 (by decide) (v := ?_) (by kernel_rfl) (by kernel_rfl) (by kernel_rfl) (fun _ _ _ h => h) hS (Or.inl ⟨by rfl, ?_⟩) ?_
  rotate_left
  · intro W hW
    skip
    clear hW
    simp only [List.getElem_cons_zero, List.getElem_cons_succ]
    go_simp
    first | done | with_reducible rfl
  simp only [List.getElem_cons_zero, List.getElem_cons_succ, Act.put, List.setIfInBounds_toArray, List.set_cons_zero, List.set_cons_succ]
  refine take_at 31 (by decide) (by kernel_rfl) (by kernel_rfl) (by kernel_rfl) (fun _ _ _ h => h) hS (yields_load_row (by rfl) 36 (.tmp 1) rfl g1 rfl _ _ _ _ (fun W hW => (k1.later hW)) Tryd.underlying36 rfl (by kernel_rfl)) ?_
  simp only [List.getElem_cons_zero, List.getElem_cons_succ, Act.put, List.setIfInBounds_toArray, List.set_cons_zero, List.set_cons_succ]
  refine call_at 32 (by decide) (Pi := (fun vv _ => vv = .agg #[.int .i64 (hi v), .int .u64 (lo v)])) (by kernel_rfl) (by rfl) (by simp only [List.getElem_cons_zero, List.getElem_cons_succ]; go_simp; first | done | rfl | exact ⟨rfl, rfl⟩) (call_one SB.mono hS (HM.out _)) ?_
  clear hS
  rintro x10 u hS rfl
  simp only [List.getElem_cons_zero, List.getElem_cons_succ, Act.put, List.setIfInBounds_toArray, List.set_cons_zero, List.set_cons_succ]
  have qhi : (hi v == hi v) = true := beq_self_eq_true _
  have qlo : (lo v == lo v) = true := beq_self_eq_true _
  refine take_at 33 (by decide) (v := ?_) (by kernel_rfl) (by kernel_rfl) (by kernel_rfl) (fun _ _ _ h => h) hS (Or.inl ⟨by rfl, ?_⟩) ?_
  rotate_left
  · intro W hW
    skip
    clear hW
    simp only [List.getElem_cons_zero, List.getElem_cons_succ]
    go_simp
    first | done | with_reducible rfl
  simp only [List.getElem_cons_zero, List.getElem_cons_succ, Act.put, List.setIfInBounds_toArray, List.set_cons_zero, List.set_cons_succ]
  refine take_at 34 (by decide) (v := ?_) (by kernel_rfl) (by kernel_rfl) (by kernel_rfl) (fun _ _ _ h => h) hS (Or.inl ⟨by rfl, ?_⟩) ?_
  rotate_left
  · intro W hW
    skip
    clear hW
    simp only [List.getElem_cons_zero, List.getElem_cons_succ]
    go_simp
    first | done | with_reducible rfl
  simp only [List.getElem_cons_zero, List.getElem_cons_succ, Act.put, List.setIfInBounds_toArray, List.set_cons_zero, List.set_cons_succ]
  refine take_at 35 (by decide) (v := ?_) (by kernel_rfl) (by kernel_rfl) (by kernel_rfl) (fun _ _ _ h => h) hS (Or.inl ⟨by rfl, ?_⟩) ?_
  rotate_left
  · intro W hW
    skip
    clear hW
    simp only [List.getElem_cons_zero, List.getElem_cons_succ]
    go_simp
    first | done | with_reducible rfl
  simp only [List.getElem_cons_zero, List.getElem_cons_succ, Act.put, List.setIfInBounds_toArray, List.set_cons_zero, List.set_cons_succ]
  refine take_at 36 (by decide) (v := ?_) (by kernel_rfl) (by kernel_rfl) (by kernel_rfl) (fun _ _ _ h => h) hS (Or.inl ⟨by rfl, ?_⟩) ?_
  rotate_left
  · intro W hW
    skip
    clear hW
    simp only [List.getElem_cons_zero, List.getElem_cons_succ]
    go_simp
    first | done | with_reducible rfl
  simp only [List.getElem_cons_zero, List.getElem_cons_succ, Act.put, List.setIfInBounds_toArray, List.set_cons_zero, List.set_cons_succ]
  refine take_at 37 (by decide) (v := ?_) (by kernel_rfl) (by kernel_rfl) (by kernel_rfl) (fun _ _ _ h => h) hS (Or.inl ⟨by rfl, ?_⟩) ?_
  rotate_left
  · intro W hW
    skip
    clear hW
    simp only [List.getElem_cons_zero, List.getElem_cons_succ]
    go_simp
    first | done | with_reducible rfl
  simp only [List.getElem_cons_zero, List.getElem_cons_succ, Act.put, List.setIfInBounds_toArray, List.set_cons_zero, List.set_cons_succ]
  refine take_at 38 (by decide) (v := ?_) (by kernel_rfl) (by kernel_rfl) (by kernel_rfl) (fun _ _ _ h => h) hS (Or.inl ⟨by rfl, ?_⟩) ?_
  rotate_left
  · intro W hW
    skip
    clear hW
    simp only [List.getElem_cons_zero, List.getElem_cons_succ]
    go_simp
    first | done | with_reducible rfl
  simp only [List.getElem_cons_zero, List.getElem_cons_succ, Act.put, List.setIfInBounds_toArray, List.set_cons_zero, List.set_cons_succ]
  refine take_at 39 (by decide) (v := ?_) (by kernel_rfl) (by kernel_rfl) (by kernel_rfl) (fun _ _ _ h => h) hS (Or.inl ⟨by rfl, ?_⟩) ?_
  rotate_left
  · intro W hW
    skip
    clear hW
    simp only [List.getElem_cons_zero, List.getElem_cons_succ]
    go_simp
    first | done | with_reducible rfl
  simp only [List.getElem_cons_zero, List.getElem_cons_succ, Act.put, List.setIfInBounds_toArray, List.set_cons_zero, List.set_cons_succ]
  refine take_at 40 (by decide) (v := ?_) (by kernel_rfl) (by kernel_rfl) (by kernel_rfl) (fun _ _ _ h => h) hS (Or.inl ⟨by rfl, ?_⟩) ?_
  rotate_left
  · intro W hW
    skip
    clear hW
    simp only [List.getElem_cons_zero, List.getElem_cons_succ]
    go_simp
    first | done | with_reducible rfl
  simp only [List.getElem_cons_zero, List.getElem_cons_succ, Act.put, List.setIfInBounds_toArray, List.set_cons_zero, List.set_cons_succ]
  refine take_at 41 (by decide) (v := ?_) (by kernel_rfl) (by kernel_rfl) (by kernel_rfl) (fun _ _ _ h => h) hS (Or.inl ⟨by rfl, ?_⟩) ?_
  rotate_left
  · intro W hW
    skip
    clear hW
    simp only [List.getElem_cons_zero, List.getElem_cons_succ]
    go_simp
    first | done | with_reducible rfl
  simp only [List.getElem_cons_zero, List.getElem_cons_succ, Act.put, List.setIfInBounds_toArray, List.set_cons_zero, List.set_cons_succ]
  refine take_at 42 (by decide) (v := ?_) (by kernel_rfl) (by kernel_rfl) (by kernel_rfl) (fun _ _ _ h => h) hS (Or.inl ⟨by rfl, ?_⟩) ?_
  rotate_left
  · intro W hW
    skip
    clear hW
    simp only [List.getElem_cons_zero, List.getElem_cons_succ]
    go_simp
    first | done | with_reducible rfl
  simp only [List.getElem_cons_zero, List.getElem_cons_succ, Act.put, List.setIfInBounds_toArray, List.set_cons_zero, List.set_cons_succ]
  refine take_at 43 (by decide) (v := ?_) (by kernel_rfl) (by kernel_rfl) (by kernel_rfl) (fun _ _ _ h => h) hS (Or.inl ⟨by rfl, ?_⟩) ?_
  rotate_left
  · intro W hW
    skip
    clear hW
    simp only [List.getElem_cons_zero, List.getElem_cons_succ]
    go_simp
    first | done | with_reducible rfl
  simp only [List.getElem_cons_zero, List.getElem_cons_succ, Act.put, List.setIfInBounds_toArray, List.set_cons_zero, List.set_cons_succ]
  refine take_at 44 (by decide) (v := ?_) (by kernel_rfl) (by kernel_rfl) (by kernel_rfl) (fun _ _ _ h => h) hS (Or.inl ⟨by rfl, ?_⟩) ?_
  rotate_left
  · intro W hW
    skip
    clear hW
    simp only [List.getElem_cons_zero, List.getElem_cons_succ]
    go_simp
    first | done | with_reducible rfl
  simp only [List.getElem_cons_zero, List.getElem_cons_succ, Act.put, List.setIfInBounds_toArray, List.set_cons_zero, List.set_cons_succ]
  refine take_at 45 (by decide) (v := ?_) (by kernel_rfl) (by kernel_rfl) (by kernel_rfl) (fun _ _ _ h => h) hS (Or.inl ⟨by rfl, ?_⟩) ?_
  rotate_left
  · intro W hW
    have q := (k2.later hW).c6
    rw [gA.1] at q
    clear hW
    simp only [List.getElem_cons_zero, List.getElem_cons_succ]
    go_simp
    first | done | with_reducible rfl
  simp only [List.getElem_cons_zero, List.getElem_cons_succ, Act.put, List.setIfInBounds_toArray, List.set_cons_zero, List.set_cons_succ]
  refine take_at 46 (by decide) (v := ?_) (by kernel_rfl) (by kernel_rfl) (by kernel_rfl) (fun _ _ _ h => h) hS (Or.inl ⟨by rfl, ?_⟩) ?_
  rotate_left
  · intro W hW
    skip
    clear hW
    simp only [List.getElem_cons_zero, List.getElem_cons_succ]
    go_simp
    first | done | with_reducible rfl
  simp only [List.getElem_cons_zero, List.getElem_cons_succ, Act.put, List.setIfInBounds_toArray, List.set_cons_zero, List.set_cons_succ]
  refine take_at 47 (by decide) (v := ?_) (by kernel_rfl) (by kernel_rfl) (by kernel_rfl) (fun _ _ _ h => h) hS (Or.inl ⟨by rfl, ?_⟩) ?_
  rotate_left
  · intro W hW
    skip
    clear hW
    simp only [List.getElem_cons_zero, List.getElem_cons_succ]
    go_simp
    first | done | with_reducible rfl
  simp only [List.getElem_cons_zero, List.getElem_cons_succ, Act.put, List.setIfInBounds_toArray, List.set_cons_zero, List.set_cons_succ]
  refine take_at 48 (by decide) (v := ?_) (by kernel_rfl) (by kernel_rfl) (by kernel_rfl) (fun _ _ _ h => h) hS (Or.inl ⟨by rfl, ?_⟩) ?_
  rotate_left
  · intro W hW
    skip
    clear hW
    simp only [List.getElem_cons_zero, List.getElem_cons_succ]
    go_simp
    first | done | with_reducible rfl
  simp only [List.getElem_cons_zero, List.getElem_cons_succ, Act.put, List.setIfInBounds_toArray, List.set_cons_zero, List.set_cons_succ]
  refine take_at 49 (by decide) (v := ?_) (by kernel_rfl) (by kernel_rfl) (by kernel_rfl) (fun _ _ _ h => h) hS (Or.inl ⟨by rfl, ?_⟩) ?_
  rotate_left
  · intro W hW
    skip
    clear hW
    simp only [List.getElem_cons_zero, List.getElem_cons_succ]
    go_simp
    first | done | with_reducible rfl
  simp only [List.getElem_cons_zero, List.getElem_cons_succ, Act.put, List.setIfInBounds_toArray, List.set_cons_zero, List.set_cons_succ]
  refine take_at 50 (by decide) (v := ?_) (by kernel_rfl) (by kernel_rfl) (by kernel_rfl) (fun _ _ _ h => h) hS (Or.inl ⟨by rfl, ?_⟩) ?_
  rotate_left
  · intro W hW
    have q := (k2.later hW).c7
    rw [gA.2] at q
    clear hW
    simp only [List.getElem_cons_zero, List.getElem_cons_succ]
    go_simp
    first | done | with_reducible rfl
  simp only [List.getElem_cons_zero, List.getElem_cons_succ, Act.put, List.setIfInBounds_toArray, List.set_cons_zero, List.set_cons_succ]
  refine take_at 51 (by decide) (v := ?_) (by kernel_rfl) (by kernel_rfl) (by kernel_rfl) (fun _ _ _ h => h) hS (Or.inl ⟨by rfl, ?_⟩) ?_
  rotate_left
  · intro W hW
    skip
    clear hW
    simp only [List.getElem_cons_zero, List.getElem_cons_succ]
    go_simp
    first | done | with_reducible rfl
  simp only [List.getElem_cons_zero, List.getElem_cons_succ, Act.put, List.setIfInBounds_toArray, List.set_cons_zero, List.set_cons_succ]
  refine take_at 52 (by decide) (v := ?_) (by kernel_rfl) (by kernel_rfl) (by kernel_rfl) (fun _ _ _ h => h) hS (Or.inl ⟨by rfl, ?_⟩) ?_
  rotate_left
  · intro W hW
    skip
    clear hW
    simp only [List.getElem_cons_zero, List.getElem_cons_succ]
    go_simp
    first | done | with_reducible rfl
  simp only [List.getElem_cons_zero, List.getElem_cons_succ, Act.put, List.setIfInBounds_toArray, List.set_cons_zero, List.set_cons_succ]
  refine take_at 53 (by decide) (v := ?_) (by kernel_rfl) (by kernel_rfl) (by kernel_rfl) (fun _ _ _ h => h) hS (Or.inl ⟨by rfl, ?_⟩) ?_
  rotate_left
  · intro W hW
    skip
    clear hW
    simp only [List.getElem_cons_zero, List.getElem_cons_succ]
    go_simp
    first | done | with_reducible rfl
  simp only [List.getElem_cons_zero, List.getElem_cons_succ, Act.put, List.setIfInBounds_toArray, List.set_cons_zero, List.set_cons_succ]
  refine take_at 54 (by decide) (v := ?_) (by kernel_rfl) (by kernel_rfl) (by kernel_rfl) (fun _ _ _ h => h) hS (Or.inl ⟨by rfl, ?_⟩) ?_
  rotate_left
  · intro W hW
    skip
    clear hW
    simp only [List.getElem_cons_zero, List.getElem_cons_succ]
    go_simp
    first | done | with_reducible rfl
  simp only [List.getElem_cons_zero, List.getElem_cons_succ, Act.put, List.setIfInBounds_toArray, List.set_cons_zero, List.set_cons_succ]
  refine take_at 55 (by decide) (v := ?_) (by kernel_rfl) (by kernel_rfl) (by kernel_rfl) (fun _ _ _ h => h) hS (Or.inl ⟨by rfl, ?_⟩) ?_
  rotate_left
  · intro W hW
    skip
    clear hW
    simp only [List.getElem_cons_zero, List.getElem_cons_succ]
    go_simp
    first | done | with_reducible rfl
  simp only [List.getElem_cons_zero, List.getElem_cons_succ, Act.put, List.setIfInBounds_toArray, List.set_cons_zero, List.set_cons_succ]
  refine take_at 56 (by decide) (v := ?_) (by kernel_rfl) (by kernel_rfl) (by kernel_rfl) (fun _ _ _ h => h) hS (Or.inl ⟨by rfl, ?_⟩) ?_
  rotate_left
  · intro W hW
    skip
    clear hW
    simp only [List.getElem_cons_zero, List.getElem_cons_succ]
    go_simp
    first | done | with_reducible rfl
  simp only [List.getElem_cons_zero, List.getElem_cons_succ, Act.put, List.setIfInBounds_toArray, List.set_cons_zero, List.set_cons_succ]
  refine take_at 57 (by decide) (v := ?_) (by kernel_rfl) (by kernel_rfl) (by kernel_rfl) (fun _ _ _ h => h) hS (Or.inl ⟨by rfl, ?_⟩) ?_
  rotate_left
  · intro W hW
    skip
    clear hW
    simp only [List.getElem_cons_zero, List.getElem_cons_succ]
    go_simp
    first | done | with_reducible rfl
  simp only [List.getElem_cons_zero, List.getElem_cons_succ, Act.put, List.setIfInBounds_toArray, List.set_cons_zero, List.set_cons_succ]
  refine wpAnyH_done (by kernel_rfl) ?_ _
  go_wp2_with fail
  go_ret
  exact ⟨rfl, bl2 hS cwc⟩
end Go.Proofs.YtjmgahdjojdanaaDoor.Ln
