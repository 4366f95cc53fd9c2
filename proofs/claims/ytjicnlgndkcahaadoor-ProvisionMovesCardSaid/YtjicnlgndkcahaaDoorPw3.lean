/-
  ProvisionMoves: its walk.
-/
import Derived.Test.YtjicnlgndkcahaaDoorPw2
import Derived.Test.YtjicnlgndkcahaaDoorLc
namespace Go.Proofs.YtjicnlgndkcahaaDoor.Ln
open Go.RowKit
open Go.Proofs.YtjicnlgndkcahaaDoor
set_option linter.unusedSimpArgs false

/-- A loan with another provision. -/
def Lo.prv (l : Lo) (v : Int) : Lo := { l with prov := v }
theorem mv_prv {l : Lo} (h : Ok l) (hg : Rd.gd (wrap64 (P l.ds - l.pp))) {v : Int} (h0 : 0 ≤ v) (h1 : v ≤ 1000000000000) (on : Int) :
    mvL (l.prv v) on = l.prv (exV l on) ∧ mvD (l.prv v) on = exV l on - v ∧ mvE (l.prv v) on = 0 ∧ 0 ≤ exV l on ∧ exV l on ≤ 1000000000000 := by
  have hx := ex_ok h hg on
  have ho := h.out0
  have hg2 := hg.2
  have he : exE (l.prv v) on = 0 := hx.1
  have hv : exV (l.prv v) on = exV l on := rfl
  have hp : (l.prv v).prov = v := rfl
  have e : mvE (l.prv v) on = 0 := by
    unfold mvE
    rw [hp, if_pos ⟨h0, h1⟩, he]
  refine ⟨?_, ?_, e, hx.2.1, by omega⟩
  · unfold mvL
    rw [if_pos e, hv]
    rfl
  · unfold mvD
    rw [if_pos e, hv, hp, wrap_in (by omega) (by omega)]
theorem mov_prv {l : Lo} (h : Ok l) (hg : Rd.gd (wrap64 (P l.ds - l.pp))) (hn : l.ds.length ≤ 100000 ∧ l.cs.length ≤ 100000) {v : Int} (h0 : 0 ≤ v ∧ v ≤ 1000000000000) (on : Int) (da ca : Option Addr) (dk ck : Nat) (W : World) (hl : LoIn' W (l.prv v) da ca) (hC : Ctb W) (hSt : Rd.Stp W) :
    Calls Tryd.prog 16 #[(.agg #[.int .i64 (l.prv v).id, .int .i64 (l.prv v).ac, .int .i64 (l.prv v).st, .int .i64 (l.prv v).pp, .int .i64 (l.prv v).pi, .int .i64 (l.prv v).fee, .int .i64 (l.prv v).pen, .int .i64 (l.prv v).chg, .int .i64 (l.prv v).prov, .int .i64 (l.prv v).loss, .int .i64 (l.prv v).rcv, .int .i64 ((l.prv v).tm).me, .int .i64 ((l.prv v).tm).pr, .int .i64 ((l.prv v).tm).ppm, .int .i64 ((l.prv v).tm).stt, .int .i64 ((l.prv v).tm).ev, .int .i64 ((l.prv v).tm).ct, .int .i64 ((l.prv v).tm).ba, .int .i64 ((l.prv v).tm).mo, .int .i64 ((l.prv v).tm).pen, .int .i64 ((l.prv v).tm).fe, .string ((l.prv v).tm).cal, .string ((l.prv v).tm).cur, .slice da (l.prv v).ds.length dk, .slice ca (l.prv v).cs.length ck]), .int .i64 on] W (MvF (l.prv (exV l on)) (exV l on - v) 0 W) := by
  have hm := mv_prv h hg h0.1 h0.2 on
  have hc := movf_any (l.prv v) da ca dk ck on W hl hn.1 hn.2 hC hSt
  rw [hm.1, hm.2.1, hm.2.2.1] at hc
  exact hc
theorem rows_set {W : World} {g : Nat} {cs : Array Value} {L : Lo} {da ca : Option Addr} (h : LoIn' W L da ca) (hne : (∀ ad, da = some ad → ad.block ≠ g) ∧ (∀ ad, ca = some ad → ad.block ≠ g)) : LoIn' (W.setRow g cs) L da ca :=
  ⟨h.d.blk (fun ad had => setRow_other _ _ _ _ (hne.1 ad had)), h.c.blk (fun ad had => setRow_other _ _ _ _ (hne.2 ad had))⟩
theorem rows_cell {W : World} {g i : Nat} {L : Lo} {da ca : Option Addr} (h : LoIn' W L da ca) (hne : (∀ ad, da = some ad → ad.block ≠ g) ∧ (∀ ad, ca = some ad → ad.block ≠ g)) (u : Value) : LoIn' (W.setCell ⟨g, i, none⟩ u) L da ca :=
  ⟨h.d.blk (fun ad had => Below.heap_setCell W _ u _ (hne.1 ad had)), h.c.blk (fun ad had => Below.heap_setCell W _ u _ (hne.2 ad had))⟩
/-- Where the loop of ProvisionMoves stands: the loan at hand, and what has been added. -/
def mvR (w : World) (l : Lo) (da ca : Option Addr) (dk ck g5 : Nat) (ds : List Int) (g : Nat) (s6 s7 : Value) (W : World) : Prop :=
  ∃ (k : Nat) (v : Int) (da' ca' : Option Addr) (dk' ck' : Nat), k + g = ds.length ∧ s7 = .int .i64 k ∧ s6 = .int .i64 (v - l.prov) ∧ (0 ≤ v ∧ v ≤ 1000000000000) ∧ LoIn' W (l.prv v) da' ca' ∧
    Bk.Blk W w.heap.size #[.int .i64 (l).id, .int .i64 (l).ac, .int .i64 (l).st, .int .i64 (l).pp, .int .i64 (l).pi, .int .i64 (l).fee, .int .i64 (l).pen, .int .i64 (l).chg, .int .i64 (l).prov, .int .i64 (l).loss, .int .i64 (l).rcv, .int .i64 ((l).tm).me, .int .i64 ((l).tm).pr, .int .i64 ((l).tm).ppm, .int .i64 ((l).tm).stt, .int .i64 ((l).tm).ev, .int .i64 ((l).tm).ct, .int .i64 ((l).tm).ba, .int .i64 ((l).tm).mo, .int .i64 ((l).tm).pen, .int .i64 ((l).tm).fe, .string ((l).tm).cal, .string ((l).tm).cur, .slice da (l).ds.length dk, .slice ca (l).cs.length ck] 27 ∧ Bk.Blk W g5 #[.int .i64 (l.prv v).id, .int .i64 (l.prv v).ac, .int .i64 (l.prv v).st, .int .i64 (l.prv v).pp, .int .i64 (l.prv v).pi, .int .i64 (l.prv v).fee, .int .i64 (l.prv v).pen, .int .i64 (l.prv v).chg, .int .i64 (l.prv v).prov, .int .i64 (l.prv v).loss, .int .i64 (l.prv v).rcv, .int .i64 ((l.prv v).tm).me, .int .i64 ((l.prv v).tm).pr, .int .i64 ((l.prv v).tm).ppm, .int .i64 ((l.prv v).tm).stt, .int .i64 ((l.prv v).tm).ev, .int .i64 ((l.prv v).tm).ct, .int .i64 ((l.prv v).tm).ba, .int .i64 ((l.prv v).tm).mo, .int .i64 ((l.prv v).tm).pen, .int .i64 ((l.prv v).tm).fe, .string ((l.prv v).tm).cal, .string ((l.prv v).tm).cur, .slice da' (l.prv v).ds.length dk', .slice ca' (l.prv v).cs.length ck'] 27 ∧ Below w.heap.size w W ∧ ∀ u, LoIn' (W.setCell ⟨g5, 8, none⟩ u) (l.prv v) da' ca'

set_option maxRecDepth 100000 in
set_option maxHeartbeats 8000000 in
theorem moves_walk (l : Lo) (da ca : Option Addr) (dk ck : Nat) (dsa : Option Addr) (dsk : Nat) (ds : List Int) (w : World) (hl : LoIn' w l da ca) (hd : Dok l.ds) (hds : Bk.IntsIn w dsa ds) (hS : Rd.Stp w ∧ Ctb w) :
    Calls Tryd.prog 6 #[(.agg #[.int .i64 (l).id, .int .i64 (l).ac, .int .i64 (l).st, .int .i64 (l).pp, .int .i64 (l).pi, .int .i64 (l).fee, .int .i64 (l).pen, .int .i64 (l).chg, .int .i64 (l).prov, .int .i64 (l).loss, .int .i64 (l).rcv, .int .i64 ((l).tm).me, .int .i64 ((l).tm).pr, .int .i64 ((l).tm).ppm, .int .i64 ((l).tm).stt, .int .i64 ((l).tm).ev, .int .i64 ((l).tm).ct, .int .i64 ((l).tm).ba, .int .i64 ((l).tm).mo, .int .i64 ((l).tm).pen, .int .i64 ((l).tm).fe, .string ((l).tm).cal, .string ((l).tm).cur, .slice da (l).ds.length dk, .slice ca (l).cs.length ck]), .slice dsa ds.length dsk] w fun e w' => e = .returned (.bool true) ∧ Below w.heap.size w w' := by
  have HH := Lib.hid (fun (W : World) (hW : Below w.heap.size w W) => hl.later hW)
  have HD := Lib.hid hd
  have HSS := Lib.hid (fun (W : World) (hW : Below w.heap.size w W) => And.intro (hS.1.of hW) (hS.2.of hW))
  have HG := Lib.hid (fun (W : World) (hW : Below w.heap.size w W) => great38_any l da ca dk ck W (hl.later hW).c)
  have HGL := Lib.hid (great38_len (l := l))
  have cw : Below w.heap.size w (w.alloc (.cells #[.int .i64 (l).id, .int .i64 (l).ac, .int .i64 (l).st, .int .i64 (l).pp, .int .i64 (l).pi, .int .i64 (l).fee, .int .i64 (l).pen, .int .i64 (l).chg, .int .i64 (l).prov, .int .i64 (l).loss, .int .i64 (l).rcv, .int .i64 ((l).tm).me, .int .i64 ((l).tm).pr, .int .i64 ((l).tm).ppm, .int .i64 ((l).tm).stt, .int .i64 ((l).tm).ev, .int .i64 ((l).tm).ct, .int .i64 ((l).tm).ba, .int .i64 ((l).tm).mo, .int .i64 ((l).tm).pen, .int .i64 ((l).tm).fe, .string ((l).tm).cal, .string ((l).tm).cur, .slice da (l).ds.length dk, .slice ca (l).cs.length ck] 27)) := (Below.refl _ _).alloc (Nat.le_refl _) _
  have k0 := Bk.Blk.nw10 (W := w) (cs := #[.int .i64 (l).id, .int .i64 (l).ac, .int .i64 (l).st, .int .i64 (l).pp, .int .i64 (l).pi, .int .i64 (l).fee, .int .i64 (l).pen, .int .i64 (l).chg, .int .i64 (l).prov, .int .i64 (l).loss, .int .i64 (l).rcv, .int .i64 ((l).tm).me, .int .i64 ((l).tm).pr, .int .i64 ((l).tm).ppm, .int .i64 ((l).tm).stt, .int .i64 ((l).tm).ev, .int .i64 ((l).tm).ct, .int .i64 ((l).tm).ba, .int .i64 ((l).tm).mo, .int .i64 ((l).tm).pen, .int .i64 ((l).tm).fe, .string ((l).tm).cal, .string ((l).tm).cur, .slice da (l).ds.length dk, .slice ca (l).cs.length ck]) (t := 27)
  clear hl hd hS
  generalize great38 l = gb at *
  have HDS := Lib.hid hds
  have HLV := Lib.hid (fun (W : World) (hW : Below w.heap.size w W) => live38_any W (HSS.out W hW).2 (HSS.out W hW).1)
  clear hds
  go_enter Tryd.func6, Tryd.ntmps6
  go_wp2_with (refine wpList_load_row rfl 27 _ rfl _ rfl _ _ _ _ (Bk.Blk.nw10) Tryd.underlying27 rfl (by kernel_rfl) ?_)
  refine (HG.out _ cw).mono ?_
  rintro e w1 ⟨rfl, hb⟩
  replace k0 := k0.later hb
  have cw1 := bl2 hb cw
  clear hb cw HG
  cases gb
  · have hlen := HGL.out rfl
    have HN := Lib.hid (show l.ds.length ≤ 100000 ∧ l.cs.length ≤ 100000 from ⟨by omega, by omega⟩)
    have HC := Lib.hid (fun (W : World) (hW : Below w.heap.size w W) => rcheck_any l da ca dk ck W (dues_of_row (by have := HN.out.1; omega) (HH.out W hW).d) HD.out)
    have HO := Lib.hid (fun (W : World) (hW : Below w.heap.size w W) => rout_any l da ca dk ck W (dues_of_row (by have := HN.out.1; omega) (HH.out W hW).d) HD.out)
    have HCK := Lib.hid (ok_iff (l := l))
    generalize chk l = ch at *
    clear hlen
    by_cases h12 : 12 < ds.length
    · have g1 : decide ((12 : Int) < (ds.length : Int)) = true := decide_eq_true (by omega)
      go_wp2_with fail
      refine (HLV.out _ cw1).mono ?_
      rintro e wy ⟨rfl, hb⟩
      have cwy := bl2 hb cw1
      go_wp2_with fail
      go_ret
      exact ⟨rfl, cwy⟩
    · have HDN := Lib.hid (show ds.length ≤ 12 by omega)
      have g1 : decide ((12 : Int) < (ds.length : Int)) = false := decide_eq_false (by omega)
      clear h12
      go_wp2_with (refine load_guarded 27 _ rfl rfl _ rfl _ _ _ _ (k0) Tryd.underlying27 rfl (by kernel_rfl) ?_)
      refine (HC.out _ cw1).mono ?_
      rintro e w2 ⟨rfl, hb⟩
      replace k0 := k0.later hb
      have cw2 := bl2 hb cw1
      clear hb cw1
      by_cases hch : ch = 0
      · have q1 : (ch != 0) = false := by rw [hch]; rfl
        have HOK := Lib.hid (HCK.out.1 hch)
        clear hch HCK
        go_wp2_with (refine load_guarded 27 _ rfl rfl _ rfl _ _ _ _ (k0) Tryd.underlying27 rfl (by kernel_rfl) ?_)
        refine (HO.out _ cw2).mono ?_
        rintro e w3 ⟨rfl, hb⟩
        replace k0 := k0.later hb
        have cw3 := bl2 hb cw2
        clear hb cw2
        go_wp2_with fail
        by_cases hg : Rd.gd (wrap64 (P l.ds - l.pp))
        · have HMV := Lib.hid (fun (v : Int) (h0 : 0 ≤ v ∧ v ≤ 1000000000000) (on : Int) => mv_prv HOK.out hg h0.1 h0.2 on)
          have HMC := Lib.hid (fun (v : Int) (h0 : 0 ≤ v ∧ v ≤ 1000000000000) (on : Int) (da1 ca1 : Option Addr) (dk1 ck1 : Nat) (W : World) (hl1 : LoIn' W (l.prv v) da1 ca1) (hW : Below w.heap.size w W) => mov_prv HOK.out hg HN.out h0 on da1 ca1 dk1 ck1 W hl1 (HSS.out W hW).2 (HSS.out W hW).1)
          have hpv := amt_iff.1 HOK.out.prov
          refine (Rd.rgood_yes _ _ hg).mono ?_
          rintro e w' ⟨rfl, rfl⟩
          clear hg
          go_upto_region 4 with (first | (refine wpList_load_row rfl 27 _ rfl _ rfl _ _ _ _ (k0) Tryd.underlying27 rfl (by kernel_rfl) ?_) | (refine wpList_store_row rfl 27 _ _ rfl _ _ rfl rfl _ _ Bk.Blk.nw10 (by kernel_rfl) rfl (one25 ..) ?_))
          have hbs : Below w3.heap.size w3 ((w3.alloc (.cells #[.int .i64 0, .int .i64 0, .int .i64 0, .int .i64 0, .int .i64 0, .int .i64 0, .int .i64 0, .int .i64 0, .int .i64 0, .int .i64 0, .int .i64 0, .int .i64 0, .int .i64 0, .int .i64 0, .int .i64 0, .int .i64 0, .int .i64 0, .int .i64 0, .int .i64 0, .int .i64 0, .int .i64 0, .string { data := #[] }, .string { data := #[] }, .slice none 0 0, .slice none 0 0] 27)).setRow w3.heap.size #[.int .i64 (l).id, .int .i64 (l).ac, .int .i64 (l).st, .int .i64 (l).pp, .int .i64 (l).pi, .int .i64 (l).fee, .int .i64 (l).pen, .int .i64 (l).chg, .int .i64 (l).prov, .int .i64 (l).loss, .int .i64 (l).rcv, .int .i64 ((l).tm).me, .int .i64 ((l).tm).pr, .int .i64 ((l).tm).ppm, .int .i64 ((l).tm).stt, .int .i64 ((l).tm).ev, .int .i64 ((l).tm).ct, .int .i64 ((l).tm).ba, .int .i64 ((l).tm).mo, .int .i64 ((l).tm).pen, .int .i64 ((l).tm).fe, .string ((l).tm).cal, .string ((l).tm).cur, .slice da (l).ds.length dk, .slice ca (l).cs.length ck]) := Below_setRow ((Below.refl _ _).alloc (Nat.le_refl _) _) (Nat.le_refl _) _
          have k5 : Bk.Blk ((w3.alloc (.cells #[.int .i64 0, .int .i64 0, .int .i64 0, .int .i64 0, .int .i64 0, .int .i64 0, .int .i64 0, .int .i64 0, .int .i64 0, .int .i64 0, .int .i64 0, .int .i64 0, .int .i64 0, .int .i64 0, .int .i64 0, .int .i64 0, .int .i64 0, .int .i64 0, .int .i64 0, .int .i64 0, .int .i64 0, .string { data := #[] }, .string { data := #[] }, .slice none 0 0, .slice none 0 0] 27)).setRow w3.heap.size #[.int .i64 (l).id, .int .i64 (l).ac, .int .i64 (l).st, .int .i64 (l).pp, .int .i64 (l).pi, .int .i64 (l).fee, .int .i64 (l).pen, .int .i64 (l).chg, .int .i64 (l).prov, .int .i64 (l).loss, .int .i64 (l).rcv, .int .i64 ((l).tm).me, .int .i64 ((l).tm).pr, .int .i64 ((l).tm).ppm, .int .i64 ((l).tm).stt, .int .i64 ((l).tm).ev, .int .i64 ((l).tm).ct, .int .i64 ((l).tm).ba, .int .i64 ((l).tm).mo, .int .i64 ((l).tm).pen, .int .i64 ((l).tm).fe, .string ((l).tm).cal, .string ((l).tm).cur, .slice da (l).ds.length dk, .slice ca (l).cs.length ck]) w3.heap.size #[.int .i64 (l.prv l.prov).id, .int .i64 (l.prv l.prov).ac, .int .i64 (l.prv l.prov).st, .int .i64 (l.prv l.prov).pp, .int .i64 (l.prv l.prov).pi, .int .i64 (l.prv l.prov).fee, .int .i64 (l.prv l.prov).pen, .int .i64 (l.prv l.prov).chg, .int .i64 (l.prv l.prov).prov, .int .i64 (l.prv l.prov).loss, .int .i64 (l.prv l.prov).rcv, .int .i64 ((l.prv l.prov).tm).me, .int .i64 ((l.prv l.prov).tm).pr, .int .i64 ((l.prv l.prov).tm).ppm, .int .i64 ((l.prv l.prov).tm).stt, .int .i64 ((l.prv l.prov).tm).ev, .int .i64 ((l.prv l.prov).tm).ct, .int .i64 ((l.prv l.prov).tm).ba, .int .i64 ((l.prv l.prov).tm).mo, .int .i64 ((l.prv l.prov).tm).pen, .int .i64 ((l.prv l.prov).tm).fe, .string ((l.prv l.prov).tm).cal, .string ((l.prv l.prov).tm).cur, .slice da (l.prv l.prov).ds.length dk, .slice ca (l.prv l.prov).cs.length ck] 27 := Blk_setRow_same Bk.Blk.nw10
          have cw4 := bl2 hbs cw3
          have hg5 : w.heap.size < w3.heap.size := k0.lt
          replace k0 := k0.later hbs
          have hl4 : LoIn' ((w3.alloc (.cells #[.int .i64 0, .int .i64 0, .int .i64 0, .int .i64 0, .int .i64 0, .int .i64 0, .int .i64 0, .int .i64 0, .int .i64 0, .int .i64 0, .int .i64 0, .int .i64 0, .int .i64 0, .int .i64 0, .int .i64 0, .int .i64 0, .int .i64 0, .int .i64 0, .int .i64 0, .int .i64 0, .int .i64 0, .string { data := #[] }, .string { data := #[] }, .slice none 0 0, .slice none 0 0] 27)).setRow w3.heap.size #[.int .i64 (l).id, .int .i64 (l).ac, .int .i64 (l).st, .int .i64 (l).pp, .int .i64 (l).pi, .int .i64 (l).fee, .int .i64 (l).pen, .int .i64 (l).chg, .int .i64 (l).prov, .int .i64 (l).loss, .int .i64 (l).rcv, .int .i64 ((l).tm).me, .int .i64 ((l).tm).pr, .int .i64 ((l).tm).ppm, .int .i64 ((l).tm).stt, .int .i64 ((l).tm).ev, .int .i64 ((l).tm).ct, .int .i64 ((l).tm).ba, .int .i64 ((l).tm).mo, .int .i64 ((l).tm).pen, .int .i64 ((l).tm).fe, .string ((l).tm).cal, .string ((l).tm).cur, .slice da (l).ds.length dk, .slice ca (l).cs.length ck]) (l.prv l.prov) da ca := ⟨(HH.out _ cw4).d, (HH.out _ cw4).c⟩
          clear hbs cw3
          generalize ((w3.alloc (.cells #[.int .i64 0, .int .i64 0, .int .i64 0, .int .i64 0, .int .i64 0, .int .i64 0, .int .i64 0, .int .i64 0, .int .i64 0, .int .i64 0, .int .i64 0, .int .i64 0, .int .i64 0, .int .i64 0, .int .i64 0, .int .i64 0, .int .i64 0, .int .i64 0, .int .i64 0, .int .i64 0, .int .i64 0, .string { data := #[] }, .string { data := #[] }, .slice none 0 0, .slice none 0 0] 27)).setRow w3.heap.size #[.int .i64 (l).id, .int .i64 (l).ac, .int .i64 (l).st, .int .i64 (l).pp, .int .i64 (l).pi, .int .i64 (l).fee, .int .i64 (l).pen, .int .i64 (l).chg, .int .i64 (l).prov, .int .i64 (l).loss, .int .i64 (l).rcv, .int .i64 ((l).tm).me, .int .i64 ((l).tm).pr, .int .i64 ((l).tm).ppm, .int .i64 ((l).tm).stt, .int .i64 ((l).tm).ev, .int .i64 ((l).tm).ct, .int .i64 ((l).tm).ba, .int .i64 ((l).tm).mo, .int .i64 ((l).tm).pen, .int .i64 ((l).tm).fe, .string ((l).tm).cal, .string ((l).tm).cur, .slice da (l).ds.length dk, .slice ca (l).cs.length ck]) = w4 at *
          generalize w3.heap.size = g5 at *
          go_wp2_with fail
          go_loopg [6, 7] ds.length (mvR w l da ca dk ck g5 ds)
          case atStart => exact ⟨0, l.prov, da, ca, dk, ck, by omega, rfl, by rw [Int.sub_self], hpv, hl4, k0, k5, cw4, fun u => HH.out _ (cw4.setCell (show w.heap.size ≤ g5 by omega) u)⟩
          case round =>
            clear k0 k5 hl4 cw4
            obtain ⟨k, v, da1, ca1, dk1, ck1, hk, rfl, rfl, hv, hl1, k0, k5, cwr, hu1⟩ := hrel
            have HU := Lib.hid hu1
            clear hu1
            have hk12 := HDN.out
            by_cases hlt : k < ds.length
            · have g4 : decide ((k : Int) < (ds.length : Int)) = true := decide_eq_true (by omega)
              obtain ⟨b, off, rfl, hc⟩ := HDS.out.2 (by omega)
              have hcell := hc k hlt
              obtain ⟨on, hon⟩ : ∃ n, n = ds.getD k 0 := ⟨_, rfl⟩
              rw [← hon] at hcell
              have HCL := Lib.hid (fun (W : World) (hW : Below w.heap.size w W) => cell_later hW hcell)
              have HV2 := Lib.hid (show 0 ≤ exV l on ∧ exV l on ≤ 1000000000000 from (HMV.out v hv on).2.2.2)
              have HM1 := Lib.hid (HMC.out v hv on)
              have hm2 := HMC.out (exV l on) HV2.out on
              rw [Int.sub_self] at hm2
              have HM2 := Lib.hid hm2
              clear hm2
              have hsum : IntKind.i64.wrap (v - l.prov + (exV l on - v)) = exV l on - l.prov := by have := HV2.out; have := amt_iff.1 HOK.out.prov; rw [IntKind.wrap_i64]; omega
              generalize exV l on = v2 at *
              clear hcell hc hon
              go_upto_region 7 with fail
              have hS0 : SB wr wr.drew := (Below.refl _ _).drew
              refine wp_region_held_drew (S := SB wr) (by kernel_rfl) hS0 (fun hS => ?_)
              clear hS0
              refine take_at 0 (by decide) (by kernel_rfl) (by kernel_rfl) (by kernel_rfl) (fun _ _ _ h => h) hS (yields_load_row (by rfl) 27 (.tmp 5) rfl g5 rfl _ _ _ _ (fun W hW => (k5.later hW)) Tryd.underlying27 rfl (by kernel_rfl)) ?_
              simp only [List.getElem_cons_zero, List.getElem_cons_succ, Act.put, List.setIfInBounds_toArray, List.set_cons_zero, List.set_cons_succ]
              refine take_at 1 (by decide) (v := ?_) (by kernel_rfl) (by kernel_rfl) (by kernel_rfl) (fun _ _ _ h => h) hS (Or.inl ⟨by rfl, ?_⟩) ?_
              rotate_left
              · intro W hW
                skip
                clear hW
                simp only [List.getElem_cons_zero, List.getElem_cons_succ]
                go_simp
                first | done | with_reducible rfl
              simp only [List.getElem_cons_zero, List.getElem_cons_succ, Act.put, List.setIfInBounds_toArray, List.set_cons_zero, List.set_cons_succ]
              refine take_at 2 (by decide) (v := ?_) (by kernel_rfl) (by kernel_rfl) (by kernel_rfl) (fun _ _ _ h => h) hS (Or.inl ⟨by rfl, ?_⟩) ?_
              rotate_left
              · intro W hW
                skip
                clear hW
                simp only [List.getElem_cons_zero, List.getElem_cons_succ]
                go_simp
                first | done | with_reducible rfl
              simp only [List.getElem_cons_zero, List.getElem_cons_succ, Act.put, List.setIfInBounds_toArray, List.set_cons_zero, List.set_cons_succ]
              refine take_at 3 (by decide) (v := ?_) (by kernel_rfl) (by kernel_rfl) (by kernel_rfl) (fun _ _ _ h => h) hS (Or.inl ⟨by rfl, ?_⟩) ?_
              rotate_left
              · intro W hW
                skip
                clear hW
                simp only [List.getElem_cons_zero, List.getElem_cons_succ]
                go_simp
                first | done | with_reducible rfl
              simp only [List.getElem_cons_zero, List.getElem_cons_succ, Act.put, List.setIfInBounds_toArray, List.set_cons_zero, List.set_cons_succ]
              refine take_at 4 (by decide) (v := ?_) (by kernel_rfl) (by kernel_rfl) (by kernel_rfl) (fun _ _ _ h => h) hS (Or.inl ⟨by rfl, ?_⟩) ?_
              rotate_left
              · intro W hW
                have q := HCL.out W (bl2 hW cwr)
                clear hW
                simp only [List.getElem_cons_zero, List.getElem_cons_succ]
                go_simp
                first | done | with_reducible rfl
              simp only [List.getElem_cons_zero, List.getElem_cons_succ, Act.put, List.setIfInBounds_toArray, List.set_cons_zero, List.set_cons_succ]
              refine two_at 5 10 (by decide) (by decide) (by kernel_rfl) (by rfl) (by rfl) (fun K hK => ?_) (fun K hK => ?_)
              · refine call_wp (by simp only [List.getElem_cons_zero, List.getElem_cons_succ]; go_simp; first | done | rfl | exact ⟨rfl, rfl⟩) ((HM1.out da1 ca1 dk1 ck1 wr.drew (hl1.later (by assumption)) (bl2 (by assumption) cwr)).mono ?_)
                rintro e v7 ⟨da7, dk7, ca7, ck7, rfl, hl7, hf7, hb⟩
                have hT := SB.mono _ _ hS hb
                refine ⟨_, rfl, hK.out _ _ hT (fun hT' => ?_)⟩
                clear hT' hS
                simp only [List.getElem_cons_zero, List.getElem_cons_succ, Act.put, List.setIfInBounds_toArray, List.set_cons_zero, List.set_cons_succ]
                refine take_at 6 (by decide) (v := ?_) (by kernel_rfl) (by kernel_rfl) (by kernel_rfl) (fun _ _ _ h => h) hT (Or.inl ⟨by rfl, ?_⟩) ?_
                rotate_left
                · intro W hW
                  skip
                  clear hW
                  simp only [List.getElem_cons_zero, List.getElem_cons_succ]
                  go_simp
                  first | done | with_reducible rfl
                simp only [List.getElem_cons_zero, List.getElem_cons_succ, Act.put, List.setIfInBounds_toArray, List.set_cons_zero, List.set_cons_succ]
                refine take_at 7 (by decide) (v := ?_) (by kernel_rfl) (by kernel_rfl) (by kernel_rfl) (fun _ _ _ h => h) hT (Or.inl ⟨by rfl, ?_⟩) ?_
                rotate_left
                · intro W hW
                  skip
                  clear hW
                  simp only [List.getElem_cons_zero, List.getElem_cons_succ]
                  go_simp
                  first | done | with_reducible rfl
                simp only [List.getElem_cons_zero, List.getElem_cons_succ, Act.put, List.setIfInBounds_toArray, List.set_cons_zero, List.set_cons_succ]
                refine take_at 8 (by decide) (v := ?_) (by kernel_rfl) (by kernel_rfl) (by kernel_rfl) (fun _ _ _ h => h) hT (Or.inl ⟨by rfl, ?_⟩) ?_
                rotate_left
                · intro W hW
                  skip
                  clear hW
                  simp only [List.getElem_cons_zero, List.getElem_cons_succ]
                  go_simp
                  first | done | with_reducible rfl
                simp only [List.getElem_cons_zero, List.getElem_cons_succ, Act.put, List.setIfInBounds_toArray, List.set_cons_zero, List.set_cons_succ]
                refine take_at 9 (by decide) (v := ?_) (by kernel_rfl) (by kernel_rfl) (by kernel_rfl) (fun _ _ _ h => h) hT (Or.inl ⟨by rfl, ?_⟩) ?_
                rotate_left
                · intro W hW
                  skip
                  clear hW
                  simp only [List.getElem_cons_zero, List.getElem_cons_succ]
                  go_simp
                  first | done | with_reducible rfl
                simp only [List.getElem_cons_zero, List.getElem_cons_succ, Act.put, List.setIfInBounds_toArray, List.set_cons_zero, List.set_cons_succ]
                refine one_at 10 (by decide) (by kernel_rfl) (by rfl) (fun K hK => ?_)
                refine value_wp (by simp only [List.getElem_cons_zero, List.getElem_cons_succ]; go_simp; first | done | rfl | exact ⟨rfl, rfl⟩) ?_
                have hU : SB wr (v7.alloc (.cells #[.int .i64 0, .int .i64 0, .int .i64 0, .int .i64 0, .int .i64 0, .int .i64 0, .int .i64 0, .int .i64 0, .int .i64 0, .int .i64 0, .int .i64 0, .int .i64 0, .int .i64 0, .int .i64 0, .int .i64 0, .int .i64 0, .int .i64 0, .int .i64 0, .int .i64 0, .int .i64 0, .int .i64 0, .string { data := #[] }, .string { data := #[] }, .slice none 0 0, .slice none 0 0] 27)) := SB.mono _ _ hT ((Below.refl _ _).alloc (Nat.le_refl _) _)
                refine hK.out _ _ hU (fun hU' => ?_)
                clear hU'
                simp only [List.getElem_cons_zero, List.getElem_cons_succ, Act.put, List.setIfInBounds_toArray, List.set_cons_zero, List.set_cons_succ]
                refine one_at 11 (by decide) (by kernel_rfl) (by rfl) (fun K hK => ?_)
                simp only [List.getElem_cons_zero, List.getElem_cons_succ]
                refine wp_store_row 27 _ _ rfl v7.heap.size _ rfl rfl _ _ (Bk.Blk.nw10) (by kernel_rfl) rfl (one25 ..) ?_
                have hX : Below v7.heap.size v7 ((v7.alloc (.cells #[.int .i64 0, .int .i64 0, .int .i64 0, .int .i64 0, .int .i64 0, .int .i64 0, .int .i64 0, .int .i64 0, .int .i64 0, .int .i64 0, .int .i64 0, .int .i64 0, .int .i64 0, .int .i64 0, .int .i64 0, .int .i64 0, .int .i64 0, .int .i64 0, .int .i64 0, .int .i64 0, .int .i64 0, .string { data := #[] }, .string { data := #[] }, .slice none 0 0, .slice none 0 0] 27)).setRow v7.heap.size #[.int .i64 (l.prv v2).id, .int .i64 (l.prv v2).ac, .int .i64 (l.prv v2).st, .int .i64 (l.prv v2).pp, .int .i64 (l.prv v2).pi, .int .i64 (l.prv v2).fee, .int .i64 (l.prv v2).pen, .int .i64 (l.prv v2).chg, .int .i64 (l.prv v2).prov, .int .i64 (l.prv v2).loss, .int .i64 (l.prv v2).rcv, .int .i64 ((l.prv v2).tm).me, .int .i64 ((l.prv v2).tm).pr, .int .i64 ((l.prv v2).tm).ppm, .int .i64 ((l.prv v2).tm).stt, .int .i64 ((l.prv v2).tm).ev, .int .i64 ((l.prv v2).tm).ct, .int .i64 ((l.prv v2).tm).ba, .int .i64 ((l.prv v2).tm).mo, .int .i64 ((l.prv v2).tm).pen, .int .i64 ((l.prv v2).tm).fe, .string ((l.prv v2).tm).cal, .string ((l.prv v2).tm).cur, .slice da7 (l.prv v2).ds.length dk7, .slice ca7 (l.prv v2).cs.length ck7]) := Below_setRow ((Below.refl _ _).alloc (Nat.le_refl _) _) (Nat.le_refl _) _
                have hS7 := SB.mono _ _ hT hX
                have hz7 : Bk.Blk ((v7.alloc (.cells #[.int .i64 0, .int .i64 0, .int .i64 0, .int .i64 0, .int .i64 0, .int .i64 0, .int .i64 0, .int .i64 0, .int .i64 0, .int .i64 0, .int .i64 0, .int .i64 0, .int .i64 0, .int .i64 0, .int .i64 0, .int .i64 0, .int .i64 0, .int .i64 0, .int .i64 0, .int .i64 0, .int .i64 0, .string { data := #[] }, .string { data := #[] }, .slice none 0 0, .slice none 0 0] 27)).setRow v7.heap.size #[.int .i64 (l.prv v2).id, .int .i64 (l.prv v2).ac, .int .i64 (l.prv v2).st, .int .i64 (l.prv v2).pp, .int .i64 (l.prv v2).pi, .int .i64 (l.prv v2).fee, .int .i64 (l.prv v2).pen, .int .i64 (l.prv v2).chg, .int .i64 (l.prv v2).prov, .int .i64 (l.prv v2).loss, .int .i64 (l.prv v2).rcv, .int .i64 ((l.prv v2).tm).me, .int .i64 ((l.prv v2).tm).pr, .int .i64 ((l.prv v2).tm).ppm, .int .i64 ((l.prv v2).tm).stt, .int .i64 ((l.prv v2).tm).ev, .int .i64 ((l.prv v2).tm).ct, .int .i64 ((l.prv v2).tm).ba, .int .i64 ((l.prv v2).tm).mo, .int .i64 ((l.prv v2).tm).pen, .int .i64 ((l.prv v2).tm).fe, .string ((l.prv v2).tm).cal, .string ((l.prv v2).tm).cur, .slice da7 (l.prv v2).ds.length dk7, .slice ca7 (l.prv v2).cs.length ck7]) v7.heap.size #[.int .i64 (l.prv v2).id, .int .i64 (l.prv v2).ac, .int .i64 (l.prv v2).st, .int .i64 (l.prv v2).pp, .int .i64 (l.prv v2).pi, .int .i64 (l.prv v2).fee, .int .i64 (l.prv v2).pen, .int .i64 (l.prv v2).chg, .int .i64 (l.prv v2).prov, .int .i64 (l.prv v2).loss, .int .i64 (l.prv v2).rcv, .int .i64 ((l.prv v2).tm).me, .int .i64 ((l.prv v2).tm).pr, .int .i64 ((l.prv v2).tm).ppm, .int .i64 ((l.prv v2).tm).stt, .int .i64 ((l.prv v2).tm).ev, .int .i64 ((l.prv v2).tm).ct, .int .i64 ((l.prv v2).tm).ba, .int .i64 ((l.prv v2).tm).mo, .int .i64 ((l.prv v2).tm).pen, .int .i64 ((l.prv v2).tm).fe, .string ((l.prv v2).tm).cal, .string ((l.prv v2).tm).cur, .slice da7 (l.prv v2).ds.length dk7, .slice ca7 (l.prv v2).cs.length ck7] 27 := Blk_setRow_same Bk.Blk.nw10
                refine hK.out _ _ hS7 (fun hU' => ?_)
                clear hU' hU hT hK
                simp only [List.getElem_cons_zero, List.getElem_cons_succ, Act.put, List.setIfInBounds_toArray, List.set_cons_zero, List.set_cons_succ]
                replace hl7 := hl7.later hX
                replace hf7 : (∀ ad, da7 = some ad → wr.heap.size ≤ ad.block) ∧ (∀ ad, ca7 = some ad → wr.heap.size ≤ ad.block) := hf7
                have hg7 : wr.heap.size ≤ v7.heap.size := (show wr.drew.heap.size ≤ v7.heap.size from hb.size)
                clear hX hb
                generalize ((v7.alloc (.cells #[.int .i64 0, .int .i64 0, .int .i64 0, .int .i64 0, .int .i64 0, .int .i64 0, .int .i64 0, .int .i64 0, .int .i64 0, .int .i64 0, .int .i64 0, .int .i64 0, .int .i64 0, .int .i64 0, .int .i64 0, .int .i64 0, .int .i64 0, .int .i64 0, .int .i64 0, .int .i64 0, .int .i64 0, .string { data := #[] }, .string { data := #[] }, .slice none 0 0, .slice none 0 0] 27)).setRow v7.heap.size #[.int .i64 (l.prv v2).id, .int .i64 (l.prv v2).ac, .int .i64 (l.prv v2).st, .int .i64 (l.prv v2).pp, .int .i64 (l.prv v2).pi, .int .i64 (l.prv v2).fee, .int .i64 (l.prv v2).pen, .int .i64 (l.prv v2).chg, .int .i64 (l.prv v2).prov, .int .i64 (l.prv v2).loss, .int .i64 (l.prv v2).rcv, .int .i64 ((l.prv v2).tm).me, .int .i64 ((l.prv v2).tm).pr, .int .i64 ((l.prv v2).tm).ppm, .int .i64 ((l.prv v2).tm).stt, .int .i64 ((l.prv v2).tm).ev, .int .i64 ((l.prv v2).tm).ct, .int .i64 ((l.prv v2).tm).ba, .int .i64 ((l.prv v2).tm).mo, .int .i64 ((l.prv v2).tm).pen, .int .i64 ((l.prv v2).tm).fe, .string ((l.prv v2).tm).cal, .string ((l.prv v2).tm).cur, .slice da7 (l.prv v2).ds.length dk7, .slice ca7 (l.prv v2).cs.length ck7]) = w7 at *
                generalize v7.heap.size = g7 at *
                refine take_at 12 (by decide) (v := ?_) (by kernel_rfl) (by kernel_rfl) (by kernel_rfl) (fun _ _ _ h => h) hS7 (Or.inl ⟨by rfl, ?_⟩) ?_
                rotate_left
                · intro W hW
                  skip
                  clear hW
                  simp only [List.getElem_cons_zero, List.getElem_cons_succ]
                  go_simp
                  first | done | with_reducible rfl
                simp only [List.getElem_cons_zero, List.getElem_cons_succ, Act.put, List.setIfInBounds_toArray, List.set_cons_zero, List.set_cons_succ]
                refine take_at 13 (by decide) (v := ?_) (by kernel_rfl) (by kernel_rfl) (by kernel_rfl) (fun _ _ _ h => h) hS7 (Or.inl ⟨by rfl, ?_⟩) ?_
                rotate_left
                · intro W hW
                  skip
                  clear hW
                  simp only [List.getElem_cons_zero, List.getElem_cons_succ]
                  go_simp
                  first | done | with_reducible rfl
                simp only [List.getElem_cons_zero, List.getElem_cons_succ, Act.put, List.setIfInBounds_toArray, List.set_cons_zero, List.set_cons_succ]
                refine wpAnyH_done (by kernel_rfl) ?_ _
                have c7 := bl2 hS7 cwr
                have hgr := k5.lt
                replace k0 := k0.later hS7
                replace k5 := k5.later hS7
                have hne7 : (∀ ad, da7 = some ad → ad.block ≠ g5) ∧ (∀ ad, ca7 = some ad → ad.block ≠ g5) := ⟨fun ad had => by have := hf7.1 ad had; omega, fun ad had => by have := hf7.2 ad had; omega⟩
                clear hl1 HU hS7 cwr hgr hg7 hf7 HM1
                go_upto_region 8 with fail
                have hS0 : SB w7 w7.drew := (Below.refl _ _).drew
                refine wp_region_held_drew (S := SB w7) (by kernel_rfl) hS0 (fun hS => ?_)
                clear hS0
                refine take_at 0 (by decide) (by kernel_rfl) (by kernel_rfl) (by kernel_rfl) (fun _ _ _ h => h) hS (yields_load_row (by rfl) 27 (.tmp 8) rfl g7 rfl _ _ _ _ (fun W hW => (hz7.later hW)) Tryd.underlying27 rfl (by kernel_rfl)) ?_
                simp only [List.getElem_cons_zero, List.getElem_cons_succ, Act.put, List.setIfInBounds_toArray, List.set_cons_zero, List.set_cons_succ]
                refine take_at 1 (by decide) (v := ?_) (by kernel_rfl) (by kernel_rfl) (by kernel_rfl) (fun _ _ _ h => h) hS (Or.inl ⟨by rfl, ?_⟩) ?_
                rotate_left
                · intro W hW
                  skip
                  clear hW
                  simp only [List.getElem_cons_zero, List.getElem_cons_succ]
                  go_simp
                  first | done | with_reducible rfl
                simp only [List.getElem_cons_zero, List.getElem_cons_succ, Act.put, List.setIfInBounds_toArray, List.set_cons_zero, List.set_cons_succ]
                refine take_at 2 (by decide) (v := ?_) (by kernel_rfl) (by kernel_rfl) (by kernel_rfl) (fun _ _ _ h => h) hS (Or.inl ⟨by rfl, ?_⟩) ?_
                rotate_left
                · intro W hW
                  skip
                  clear hW
                  simp only [List.getElem_cons_zero, List.getElem_cons_succ]
                  go_simp
                  first | done | with_reducible rfl
                simp only [List.getElem_cons_zero, List.getElem_cons_succ, Act.put, List.setIfInBounds_toArray, List.set_cons_zero, List.set_cons_succ]
                refine take_at 3 (by decide) (v := ?_) (by kernel_rfl) (by kernel_rfl) (by kernel_rfl) (fun _ _ _ h => h) hS (Or.inl ⟨by rfl, ?_⟩) ?_
                rotate_left
                · intro W hW
                  skip
                  clear hW
                  simp only [List.getElem_cons_zero, List.getElem_cons_succ]
                  go_simp
                  first | done | with_reducible rfl
                simp only [List.getElem_cons_zero, List.getElem_cons_succ, Act.put, List.setIfInBounds_toArray, List.set_cons_zero, List.set_cons_succ]
                refine take_at 4 (by decide) (v := ?_) (by kernel_rfl) (by kernel_rfl) (by kernel_rfl) (fun _ _ _ h => h) hS (Or.inl ⟨by rfl, ?_⟩) ?_
                rotate_left
                · intro W hW
                  have q := HCL.out W (bl2 hW c7)
                  clear hW
                  simp only [List.getElem_cons_zero, List.getElem_cons_succ]
                  go_simp
                  first | done | with_reducible rfl
                simp only [List.getElem_cons_zero, List.getElem_cons_succ, Act.put, List.setIfInBounds_toArray, List.set_cons_zero, List.set_cons_succ]
                refine two_at 5 10 (by decide) (by decide) (by kernel_rfl) (by rfl) (by rfl) (fun K hK => ?_) (fun K hK => ?_)
                · refine call_wp (by simp only [List.getElem_cons_zero, List.getElem_cons_succ]; go_simp; first | done | rfl | exact ⟨rfl, rfl⟩) ((HM2.out da7 ca7 dk7 ck7 w7.drew (hl7.later (by assumption)) (bl2 (by assumption) c7)).mono ?_)
                  rintro e v8 ⟨da8, dk8, ca8, ck8, rfl, hl8, hf8, hb⟩
                  have hT := SB.mono _ _ hS hb
                  refine ⟨_, rfl, hK.out _ _ hT (fun hT' => ?_)⟩
                  clear hT' hS
                  simp only [List.getElem_cons_zero, List.getElem_cons_succ, Act.put, List.setIfInBounds_toArray, List.set_cons_zero, List.set_cons_succ]
                  refine take_at 6 (by decide) (v := ?_) (by kernel_rfl) (by kernel_rfl) (by kernel_rfl) (fun _ _ _ h => h) hT (Or.inl ⟨by rfl, ?_⟩) ?_
                  rotate_left
                  · intro W hW
                    skip
                    clear hW
                    simp only [List.getElem_cons_zero, List.getElem_cons_succ]
                    go_simp
                    first | done | with_reducible rfl
                  simp only [List.getElem_cons_zero, List.getElem_cons_succ, Act.put, List.setIfInBounds_toArray, List.set_cons_zero, List.set_cons_succ]
                  refine take_at 7 (by decide) (v := ?_) (by kernel_rfl) (by kernel_rfl) (by kernel_rfl) (fun _ _ _ h => h) hT (Or.inl ⟨by rfl, ?_⟩) ?_
                  rotate_left
                  · intro W hW
                    skip
                    clear hW
                    simp only [List.getElem_cons_zero, List.getElem_cons_succ]
                    go_simp
                    first | done | with_reducible rfl
                  simp only [List.getElem_cons_zero, List.getElem_cons_succ, Act.put, List.setIfInBounds_toArray, List.set_cons_zero, List.set_cons_succ]
                  refine take_at 8 (by decide) (v := ?_) (by kernel_rfl) (by kernel_rfl) (by kernel_rfl) (fun _ _ _ h => h) hT (Or.inl ⟨by rfl, ?_⟩) ?_
                  rotate_left
                  · intro W hW
                    skip
                    clear hW
                    simp only [List.getElem_cons_zero, List.getElem_cons_succ]
                    go_simp
                    first | done | with_reducible rfl
                  simp only [List.getElem_cons_zero, List.getElem_cons_succ, Act.put, List.setIfInBounds_toArray, List.set_cons_zero, List.set_cons_succ]
                  refine take_at 9 (by decide) (v := ?_) (by kernel_rfl) (by kernel_rfl) (by kernel_rfl) (fun _ _ _ h => h) hT (Or.inl ⟨by rfl, ?_⟩) ?_
                  rotate_left
                  · intro W hW
                    skip
                    clear hW
                    simp only [List.getElem_cons_zero, List.getElem_cons_succ]
                    go_simp
                    first | done | with_reducible rfl
                  simp only [List.getElem_cons_zero, List.getElem_cons_succ, Act.put, List.setIfInBounds_toArray, List.set_cons_zero, List.set_cons_succ]
                  refine one_at 10 (by decide) (by kernel_rfl) (by rfl) (fun K hK => ?_)
                  refine value_wp (by simp only [List.getElem_cons_zero, List.getElem_cons_succ]; go_simp; first | done | rfl | exact ⟨rfl, rfl⟩) ?_
                  have hU : SB w7 (v8.alloc (.cells #[.int .i64 0, .int .i64 0, .int .i64 0, .int .i64 0, .int .i64 0, .int .i64 0, .int .i64 0, .int .i64 0, .int .i64 0, .int .i64 0, .int .i64 0, .int .i64 0, .int .i64 0, .int .i64 0, .int .i64 0, .int .i64 0, .int .i64 0, .int .i64 0, .int .i64 0, .int .i64 0, .int .i64 0, .string { data := #[] }, .string { data := #[] }, .slice none 0 0, .slice none 0 0] 27)) := SB.mono _ _ hT ((Below.refl _ _).alloc (Nat.le_refl _) _)
                  refine hK.out _ _ hU (fun hU' => ?_)
                  clear hU'
                  simp only [List.getElem_cons_zero, List.getElem_cons_succ, Act.put, List.setIfInBounds_toArray, List.set_cons_zero, List.set_cons_succ]
                  refine one_at 11 (by decide) (by kernel_rfl) (by rfl) (fun K hK => ?_)
                  simp only [List.getElem_cons_zero, List.getElem_cons_succ]
                  refine wp_store_row 27 _ _ rfl v8.heap.size _ rfl rfl _ _ (Bk.Blk.nw10) (by kernel_rfl) rfl (one25 ..) ?_
                  have hX : Below v8.heap.size v8 ((v8.alloc (.cells #[.int .i64 0, .int .i64 0, .int .i64 0, .int .i64 0, .int .i64 0, .int .i64 0, .int .i64 0, .int .i64 0, .int .i64 0, .int .i64 0, .int .i64 0, .int .i64 0, .int .i64 0, .int .i64 0, .int .i64 0, .int .i64 0, .int .i64 0, .int .i64 0, .int .i64 0, .int .i64 0, .int .i64 0, .string { data := #[] }, .string { data := #[] }, .slice none 0 0, .slice none 0 0] 27)).setRow v8.heap.size #[.int .i64 (l.prv v2).id, .int .i64 (l.prv v2).ac, .int .i64 (l.prv v2).st, .int .i64 (l.prv v2).pp, .int .i64 (l.prv v2).pi, .int .i64 (l.prv v2).fee, .int .i64 (l.prv v2).pen, .int .i64 (l.prv v2).chg, .int .i64 (l.prv v2).prov, .int .i64 (l.prv v2).loss, .int .i64 (l.prv v2).rcv, .int .i64 ((l.prv v2).tm).me, .int .i64 ((l.prv v2).tm).pr, .int .i64 ((l.prv v2).tm).ppm, .int .i64 ((l.prv v2).tm).stt, .int .i64 ((l.prv v2).tm).ev, .int .i64 ((l.prv v2).tm).ct, .int .i64 ((l.prv v2).tm).ba, .int .i64 ((l.prv v2).tm).mo, .int .i64 ((l.prv v2).tm).pen, .int .i64 ((l.prv v2).tm).fe, .string ((l.prv v2).tm).cal, .string ((l.prv v2).tm).cur, .slice da8 (l.prv v2).ds.length dk8, .slice ca8 (l.prv v2).cs.length ck8]) := Below_setRow ((Below.refl _ _).alloc (Nat.le_refl _) _) (Nat.le_refl _) _
                  have hS8 := SB.mono _ _ hT hX
                  have hz8 : Bk.Blk ((v8.alloc (.cells #[.int .i64 0, .int .i64 0, .int .i64 0, .int .i64 0, .int .i64 0, .int .i64 0, .int .i64 0, .int .i64 0, .int .i64 0, .int .i64 0, .int .i64 0, .int .i64 0, .int .i64 0, .int .i64 0, .int .i64 0, .int .i64 0, .int .i64 0, .int .i64 0, .int .i64 0, .int .i64 0, .int .i64 0, .string { data := #[] }, .string { data := #[] }, .slice none 0 0, .slice none 0 0] 27)).setRow v8.heap.size #[.int .i64 (l.prv v2).id, .int .i64 (l.prv v2).ac, .int .i64 (l.prv v2).st, .int .i64 (l.prv v2).pp, .int .i64 (l.prv v2).pi, .int .i64 (l.prv v2).fee, .int .i64 (l.prv v2).pen, .int .i64 (l.prv v2).chg, .int .i64 (l.prv v2).prov, .int .i64 (l.prv v2).loss, .int .i64 (l.prv v2).rcv, .int .i64 ((l.prv v2).tm).me, .int .i64 ((l.prv v2).tm).pr, .int .i64 ((l.prv v2).tm).ppm, .int .i64 ((l.prv v2).tm).stt, .int .i64 ((l.prv v2).tm).ev, .int .i64 ((l.prv v2).tm).ct, .int .i64 ((l.prv v2).tm).ba, .int .i64 ((l.prv v2).tm).mo, .int .i64 ((l.prv v2).tm).pen, .int .i64 ((l.prv v2).tm).fe, .string ((l.prv v2).tm).cal, .string ((l.prv v2).tm).cur, .slice da8 (l.prv v2).ds.length dk8, .slice ca8 (l.prv v2).cs.length ck8]) v8.heap.size #[.int .i64 (l.prv v2).id, .int .i64 (l.prv v2).ac, .int .i64 (l.prv v2).st, .int .i64 (l.prv v2).pp, .int .i64 (l.prv v2).pi, .int .i64 (l.prv v2).fee, .int .i64 (l.prv v2).pen, .int .i64 (l.prv v2).chg, .int .i64 (l.prv v2).prov, .int .i64 (l.prv v2).loss, .int .i64 (l.prv v2).rcv, .int .i64 ((l.prv v2).tm).me, .int .i64 ((l.prv v2).tm).pr, .int .i64 ((l.prv v2).tm).ppm, .int .i64 ((l.prv v2).tm).stt, .int .i64 ((l.prv v2).tm).ev, .int .i64 ((l.prv v2).tm).ct, .int .i64 ((l.prv v2).tm).ba, .int .i64 ((l.prv v2).tm).mo, .int .i64 ((l.prv v2).tm).pen, .int .i64 ((l.prv v2).tm).fe, .string ((l.prv v2).tm).cal, .string ((l.prv v2).tm).cur, .slice da8 (l.prv v2).ds.length dk8, .slice ca8 (l.prv v2).cs.length ck8] 27 := Blk_setRow_same Bk.Blk.nw10
                  refine hK.out _ _ hS8 (fun hU' => ?_)
                  clear hU' hU hT hK
                  simp only [List.getElem_cons_zero, List.getElem_cons_succ, Act.put, List.setIfInBounds_toArray, List.set_cons_zero, List.set_cons_succ]
                  replace hl8 := hl8.later hX
                  replace hf8 : (∀ ad, da8 = some ad → w7.heap.size ≤ ad.block) ∧ (∀ ad, ca8 = some ad → w7.heap.size ≤ ad.block) := hf8
                  have hg8 : w7.heap.size ≤ v8.heap.size := (show w7.drew.heap.size ≤ v8.heap.size from hb.size)
                  clear hX hb
                  generalize ((v8.alloc (.cells #[.int .i64 0, .int .i64 0, .int .i64 0, .int .i64 0, .int .i64 0, .int .i64 0, .int .i64 0, .int .i64 0, .int .i64 0, .int .i64 0, .int .i64 0, .int .i64 0, .int .i64 0, .int .i64 0, .int .i64 0, .int .i64 0, .int .i64 0, .int .i64 0, .int .i64 0, .int .i64 0, .int .i64 0, .string { data := #[] }, .string { data := #[] }, .slice none 0 0, .slice none 0 0] 27)).setRow v8.heap.size #[.int .i64 (l.prv v2).id, .int .i64 (l.prv v2).ac, .int .i64 (l.prv v2).st, .int .i64 (l.prv v2).pp, .int .i64 (l.prv v2).pi, .int .i64 (l.prv v2).fee, .int .i64 (l.prv v2).pen, .int .i64 (l.prv v2).chg, .int .i64 (l.prv v2).prov, .int .i64 (l.prv v2).loss, .int .i64 (l.prv v2).rcv, .int .i64 ((l.prv v2).tm).me, .int .i64 ((l.prv v2).tm).pr, .int .i64 ((l.prv v2).tm).ppm, .int .i64 ((l.prv v2).tm).stt, .int .i64 ((l.prv v2).tm).ev, .int .i64 ((l.prv v2).tm).ct, .int .i64 ((l.prv v2).tm).ba, .int .i64 ((l.prv v2).tm).mo, .int .i64 ((l.prv v2).tm).pen, .int .i64 ((l.prv v2).tm).fe, .string ((l.prv v2).tm).cal, .string ((l.prv v2).tm).cur, .slice da8 (l.prv v2).ds.length dk8, .slice ca8 (l.prv v2).cs.length ck8]) = w8 at *
                  generalize v8.heap.size = g8 at *
                  refine take_at 12 (by decide) (v := ?_) (by kernel_rfl) (by kernel_rfl) (by kernel_rfl) (fun _ _ _ h => h) hS8 (Or.inl ⟨by rfl, ?_⟩) ?_
                  rotate_left
                  · intro W hW
                    skip
                    clear hW
                    simp only [List.getElem_cons_zero, List.getElem_cons_succ]
                    go_simp
                    first | done | with_reducible rfl
                  simp only [List.getElem_cons_zero, List.getElem_cons_succ, Act.put, List.setIfInBounds_toArray, List.set_cons_zero, List.set_cons_succ]
                  refine take_at 13 (by decide) (v := ?_) (by kernel_rfl) (by kernel_rfl) (by kernel_rfl) (fun _ _ _ h => h) hS8 (Or.inl ⟨by rfl, ?_⟩) ?_
                  rotate_left
                  · intro W hW
                    skip
                    clear hW
                    simp only [List.getElem_cons_zero, List.getElem_cons_succ]
                    go_simp
                    first | done | with_reducible rfl
                  simp only [List.getElem_cons_zero, List.getElem_cons_succ, Act.put, List.setIfInBounds_toArray, List.set_cons_zero, List.set_cons_succ]
                  refine wpAnyH_done (by kernel_rfl) ?_ _
                  have c8 := bl2 hS8 c7
                  replace k0 := k0.later hS8
                  replace k5 := k5.later hS8
                  replace hz7 := hz7.later hS8
                  replace hl7 := hl7.later hS8
                  go_wp2_with (first | (refine load_guarded 27 _ rfl rfl _ rfl _ _ _ _ (hz7) Tryd.underlying27 rfl (by kernel_rfl) ?_) | (refine load_guarded 27 _ rfl rfl _ rfl _ _ _ _ (hz8) Tryd.underlying27 rfl (by kernel_rfl) ?_))
                  refine (same_any (l.prv v2) da7 ca7 da8 ca8 dk7 ck7 dk8 ck8 _ hl7.d hl8.d hl7.c hl8.c HN.out.1 HN.out.2).mono ?_
                  rintro e w9 ⟨rfl, hb⟩
                  have c9 := bl2 hb c8
                  replace k0 := k0.later hb
                  replace k5 := k5.later hb
                  replace hz7 := hz7.later hb
                  replace hl7 := hl7.later hb
                  clear hb c8 hS8 hz8 hl8 hf8 hg8
                  go_wp2_with (first | (refine wpList_load_row rfl 27 _ rfl _ rfl _ _ _ _ (hz7) Tryd.underlying27 rfl (by kernel_rfl) ?_) | (refine wpList_store_row rfl 27 _ _ rfl _ _ rfl rfl _ _ k5 (by kernel_rfl) rfl (one25 ..) ?_))
                  go_roundg (gk - 1)
                  case measure => omega
                  case rel => exact ⟨k + 1, v2, da7, ca7, dk7, ck7, by omega, by go_num, by go_num, HV2.out, rows_set hl7 hne7, Blk_setRow_ne k0 (by omega), Blk_setRow_same k5, Below_setRow c9 (by omega) _, fun u => rows_cell (rows_set hl7 hne7) hne7 u⟩
                · refine value_wp (by simp only [List.getElem_cons_zero, List.getElem_cons_succ]; go_simp; first | done | rfl | exact ⟨rfl, rfl⟩) ?_
                  have hT : SB w7 ((w7.alloc (.cells #[.int .i64 0, .int .i64 0, .int .i64 0, .int .i64 0, .int .i64 0, .int .i64 0, .int .i64 0, .int .i64 0, .int .i64 0, .int .i64 0, .int .i64 0, .int .i64 0, .int .i64 0, .int .i64 0, .int .i64 0, .int .i64 0, .int .i64 0, .int .i64 0, .int .i64 0, .int .i64 0, .int .i64 0, .string { data := #[] }, .string { data := #[] }, .slice none 0 0, .slice none 0 0] 27)).drew) := ((Below.refl _ _).alloc (Nat.le_refl _) _).drew
                  have hN : Bk.Blk ((w7.alloc (.cells #[.int .i64 0, .int .i64 0, .int .i64 0, .int .i64 0, .int .i64 0, .int .i64 0, .int .i64 0, .int .i64 0, .int .i64 0, .int .i64 0, .int .i64 0, .int .i64 0, .int .i64 0, .int .i64 0, .int .i64 0, .int .i64 0, .int .i64 0, .int .i64 0, .int .i64 0, .int .i64 0, .int .i64 0, .string { data := #[] }, .string { data := #[] }, .slice none 0 0, .slice none 0 0] 27)).drew) w7.heap.size #[.int .i64 0, .int .i64 0, .int .i64 0, .int .i64 0, .int .i64 0, .int .i64 0, .int .i64 0, .int .i64 0, .int .i64 0, .int .i64 0, .int .i64 0, .int .i64 0, .int .i64 0, .int .i64 0, .int .i64 0, .int .i64 0, .int .i64 0, .int .i64 0, .int .i64 0, .int .i64 0, .int .i64 0, .string { data := #[] }, .string { data := #[] }, .slice none 0 0, .slice none 0 0] 27 := Bk.Blk.drew Bk.Blk.nw10
                  have hg8 : w7.heap.size ≤ w7.heap.size := Nat.le_refl _
                  refine hK.out _ _ hT (fun hT' => ?_)
                  clear hT' hK hS
                  simp only [List.getElem_cons_zero, List.getElem_cons_succ, Act.put, List.setIfInBounds_toArray, List.set_cons_zero, List.set_cons_succ]
                  have hlt := hN.lt
                  have hge := Below.size hT
                  generalize ((w7.alloc (.cells #[.int .i64 0, .int .i64 0, .int .i64 0, .int .i64 0, .int .i64 0, .int .i64 0, .int .i64 0, .int .i64 0, .int .i64 0, .int .i64 0, .int .i64 0, .int .i64 0, .int .i64 0, .int .i64 0, .int .i64 0, .int .i64 0, .int .i64 0, .int .i64 0, .int .i64 0, .int .i64 0, .int .i64 0, .string { data := #[] }, .string { data := #[] }, .slice none 0 0, .slice none 0 0] 27)).drew) = u8 at *
                  obtain ⟨g8, eg8⟩ : ∃ g, g = w7.heap.size := ⟨_, rfl⟩
                  rw [← eg8] at hN hlt
                  replace hg8 : w7.heap.size ≤ g8 := by omega
                  rw [← eg8]
                  clear eg8
                  refine one_at 5 (by decide) (by kernel_rfl) (by rfl) (fun K hK => ?_)
                  refine call_wp (by simp only [List.getElem_cons_zero, List.getElem_cons_succ]; go_simp; first | done | rfl | exact ⟨rfl, rfl⟩) ((HM2.out da7 ca7 dk7 ck7 u8 (hl7.later (by assumption)) (bl2 (by assumption) c7)).mono ?_)
                  rintro e v8 ⟨da8, dk8, ca8, ck8, rfl, hl8, hf8, hb⟩
                  have hU := SB.mono _ _ hT hb
                  replace hN := hN.later hb
                  refine ⟨_, rfl, hK.out _ _ hU (fun hU' => ?_)⟩
                  clear hU' hT hK
                  simp only [List.getElem_cons_zero, List.getElem_cons_succ, Act.put, List.setIfInBounds_toArray, List.set_cons_zero, List.set_cons_succ]
                  refine take_at 6 (by decide) (v := ?_) (by kernel_rfl) (by kernel_rfl) (by kernel_rfl) (fun _ _ _ h => h) hU (Or.inl ⟨by rfl, ?_⟩) ?_
                  rotate_left
                  · intro W hW
                    skip
                    clear hW
                    simp only [List.getElem_cons_zero, List.getElem_cons_succ]
                    go_simp
                    first | done | with_reducible rfl
                  simp only [List.getElem_cons_zero, List.getElem_cons_succ, Act.put, List.setIfInBounds_toArray, List.set_cons_zero, List.set_cons_succ]
                  refine take_at 7 (by decide) (v := ?_) (by kernel_rfl) (by kernel_rfl) (by kernel_rfl) (fun _ _ _ h => h) hU (Or.inl ⟨by rfl, ?_⟩) ?_
                  rotate_left
                  · intro W hW
                    skip
                    clear hW
                    simp only [List.getElem_cons_zero, List.getElem_cons_succ]
                    go_simp
                    first | done | with_reducible rfl
                  simp only [List.getElem_cons_zero, List.getElem_cons_succ, Act.put, List.setIfInBounds_toArray, List.set_cons_zero, List.set_cons_succ]
                  refine take_at 8 (by decide) (v := ?_) (by kernel_rfl) (by kernel_rfl) (by kernel_rfl) (fun _ _ _ h => h) hU (Or.inl ⟨by rfl, ?_⟩) ?_
                  rotate_left
                  · intro W hW
                    skip
                    clear hW
                    simp only [List.getElem_cons_zero, List.getElem_cons_succ]
                    go_simp
                    first | done | with_reducible rfl
                  simp only [List.getElem_cons_zero, List.getElem_cons_succ, Act.put, List.setIfInBounds_toArray, List.set_cons_zero, List.set_cons_succ]
                  refine take_at 9 (by decide) (v := ?_) (by kernel_rfl) (by kernel_rfl) (by kernel_rfl) (fun _ _ _ h => h) hU (Or.inl ⟨by rfl, ?_⟩) ?_
                  rotate_left
                  · intro W hW
                    skip
                    clear hW
                    simp only [List.getElem_cons_zero, List.getElem_cons_succ]
                    go_simp
                    first | done | with_reducible rfl
                  simp only [List.getElem_cons_zero, List.getElem_cons_succ, Act.put, List.setIfInBounds_toArray, List.set_cons_zero, List.set_cons_succ]
                  refine one_at 11 (by decide) (by kernel_rfl) (by rfl) (fun K hK => ?_)
                  simp only [List.getElem_cons_zero, List.getElem_cons_succ]
                  refine wp_store_row 27 _ _ rfl g8 _ rfl rfl _ _ (hN) (by kernel_rfl) rfl (one25 ..) ?_
                  have hS8 : SB w7 (v8.setRow g8 #[.int .i64 (l.prv v2).id, .int .i64 (l.prv v2).ac, .int .i64 (l.prv v2).st, .int .i64 (l.prv v2).pp, .int .i64 (l.prv v2).pi, .int .i64 (l.prv v2).fee, .int .i64 (l.prv v2).pen, .int .i64 (l.prv v2).chg, .int .i64 (l.prv v2).prov, .int .i64 (l.prv v2).loss, .int .i64 (l.prv v2).rcv, .int .i64 ((l.prv v2).tm).me, .int .i64 ((l.prv v2).tm).pr, .int .i64 ((l.prv v2).tm).ppm, .int .i64 ((l.prv v2).tm).stt, .int .i64 ((l.prv v2).tm).ev, .int .i64 ((l.prv v2).tm).ct, .int .i64 ((l.prv v2).tm).ba, .int .i64 ((l.prv v2).tm).mo, .int .i64 ((l.prv v2).tm).pen, .int .i64 ((l.prv v2).tm).fe, .string ((l.prv v2).tm).cal, .string ((l.prv v2).tm).cur, .slice da8 (l.prv v2).ds.length dk8, .slice ca8 (l.prv v2).cs.length ck8]) := Below_setRow hU hg8 _
                  have hz8 : Bk.Blk (v8.setRow g8 #[.int .i64 (l.prv v2).id, .int .i64 (l.prv v2).ac, .int .i64 (l.prv v2).st, .int .i64 (l.prv v2).pp, .int .i64 (l.prv v2).pi, .int .i64 (l.prv v2).fee, .int .i64 (l.prv v2).pen, .int .i64 (l.prv v2).chg, .int .i64 (l.prv v2).prov, .int .i64 (l.prv v2).loss, .int .i64 (l.prv v2).rcv, .int .i64 ((l.prv v2).tm).me, .int .i64 ((l.prv v2).tm).pr, .int .i64 ((l.prv v2).tm).ppm, .int .i64 ((l.prv v2).tm).stt, .int .i64 ((l.prv v2).tm).ev, .int .i64 ((l.prv v2).tm).ct, .int .i64 ((l.prv v2).tm).ba, .int .i64 ((l.prv v2).tm).mo, .int .i64 ((l.prv v2).tm).pen, .int .i64 ((l.prv v2).tm).fe, .string ((l.prv v2).tm).cal, .string ((l.prv v2).tm).cur, .slice da8 (l.prv v2).ds.length dk8, .slice ca8 (l.prv v2).cs.length ck8]) g8 #[.int .i64 (l.prv v2).id, .int .i64 (l.prv v2).ac, .int .i64 (l.prv v2).st, .int .i64 (l.prv v2).pp, .int .i64 (l.prv v2).pi, .int .i64 (l.prv v2).fee, .int .i64 (l.prv v2).pen, .int .i64 (l.prv v2).chg, .int .i64 (l.prv v2).prov, .int .i64 (l.prv v2).loss, .int .i64 (l.prv v2).rcv, .int .i64 ((l.prv v2).tm).me, .int .i64 ((l.prv v2).tm).pr, .int .i64 ((l.prv v2).tm).ppm, .int .i64 ((l.prv v2).tm).stt, .int .i64 ((l.prv v2).tm).ev, .int .i64 ((l.prv v2).tm).ct, .int .i64 ((l.prv v2).tm).ba, .int .i64 ((l.prv v2).tm).mo, .int .i64 ((l.prv v2).tm).pen, .int .i64 ((l.prv v2).tm).fe, .string ((l.prv v2).tm).cal, .string ((l.prv v2).tm).cur, .slice da8 (l.prv v2).ds.length dk8, .slice ca8 (l.prv v2).cs.length ck8] 27 := Blk_setRow_same hN
                  refine hK.out _ _ hS8 (fun hU' => ?_)
                  clear hU' hU hK
                  simp only [List.getElem_cons_zero, List.getElem_cons_succ, Act.put, List.setIfInBounds_toArray, List.set_cons_zero, List.set_cons_succ]
                  replace hl8 : LoIn' (v8.setRow g8 #[.int .i64 (l.prv v2).id, .int .i64 (l.prv v2).ac, .int .i64 (l.prv v2).st, .int .i64 (l.prv v2).pp, .int .i64 (l.prv v2).pi, .int .i64 (l.prv v2).fee, .int .i64 (l.prv v2).pen, .int .i64 (l.prv v2).chg, .int .i64 (l.prv v2).prov, .int .i64 (l.prv v2).loss, .int .i64 (l.prv v2).rcv, .int .i64 ((l.prv v2).tm).me, .int .i64 ((l.prv v2).tm).pr, .int .i64 ((l.prv v2).tm).ppm, .int .i64 ((l.prv v2).tm).stt, .int .i64 ((l.prv v2).tm).ev, .int .i64 ((l.prv v2).tm).ct, .int .i64 ((l.prv v2).tm).ba, .int .i64 ((l.prv v2).tm).mo, .int .i64 ((l.prv v2).tm).pen, .int .i64 ((l.prv v2).tm).fe, .string ((l.prv v2).tm).cal, .string ((l.prv v2).tm).cur, .slice da8 (l.prv v2).ds.length dk8, .slice ca8 (l.prv v2).cs.length ck8]) _ da8 ca8 := ⟨hl8.d.blk (fun ad had => setRow_other _ _ _ _ (fun he => by have := hf8.1 ad had; omega)), hl8.c.blk (fun ad had => setRow_other _ _ _ _ (fun he => by have := hf8.2 ad had; omega))⟩
                  replace hf8 : (∀ ad, da8 = some ad → w7.heap.size ≤ ad.block) ∧ (∀ ad, ca8 = some ad → w7.heap.size ≤ ad.block) := ⟨fun ad had => by have := hf8.1 ad had; omega, fun ad had => by have := hf8.2 ad had; omega⟩
                  clear hge hlt hb hN
                  generalize (v8.setRow g8 #[.int .i64 (l.prv v2).id, .int .i64 (l.prv v2).ac, .int .i64 (l.prv v2).st, .int .i64 (l.prv v2).pp, .int .i64 (l.prv v2).pi, .int .i64 (l.prv v2).fee, .int .i64 (l.prv v2).pen, .int .i64 (l.prv v2).chg, .int .i64 (l.prv v2).prov, .int .i64 (l.prv v2).loss, .int .i64 (l.prv v2).rcv, .int .i64 ((l.prv v2).tm).me, .int .i64 ((l.prv v2).tm).pr, .int .i64 ((l.prv v2).tm).ppm, .int .i64 ((l.prv v2).tm).stt, .int .i64 ((l.prv v2).tm).ev, .int .i64 ((l.prv v2).tm).ct, .int .i64 ((l.prv v2).tm).ba, .int .i64 ((l.prv v2).tm).mo, .int .i64 ((l.prv v2).tm).pen, .int .i64 ((l.prv v2).tm).fe, .string ((l.prv v2).tm).cal, .string ((l.prv v2).tm).cur, .slice da8 (l.prv v2).ds.length dk8, .slice ca8 (l.prv v2).cs.length ck8]) = w8 at *
                  refine take_at 12 (by decide) (v := ?_) (by kernel_rfl) (by kernel_rfl) (by kernel_rfl) (fun _ _ _ h => h) hS8 (Or.inl ⟨by rfl, ?_⟩) ?_
                  rotate_left
                  · intro W hW
                    skip
                    clear hW
                    simp only [List.getElem_cons_zero, List.getElem_cons_succ]
                    go_simp
                    first | done | with_reducible rfl
                  simp only [List.getElem_cons_zero, List.getElem_cons_succ, Act.put, List.setIfInBounds_toArray, List.set_cons_zero, List.set_cons_succ]
                  refine take_at 13 (by decide) (v := ?_) (by kernel_rfl) (by kernel_rfl) (by kernel_rfl) (fun _ _ _ h => h) hS8 (Or.inl ⟨by rfl, ?_⟩) ?_
                  rotate_left
                  · intro W hW
                    skip
                    clear hW
                    simp only [List.getElem_cons_zero, List.getElem_cons_succ]
                    go_simp
                    first | done | with_reducible rfl
                  simp only [List.getElem_cons_zero, List.getElem_cons_succ, Act.put, List.setIfInBounds_toArray, List.set_cons_zero, List.set_cons_succ]
                  refine wpAnyH_done (by kernel_rfl) ?_ _
                  have c8 := bl2 hS8 c7
                  replace k0 := k0.later hS8
                  replace k5 := k5.later hS8
                  replace hz7 := hz7.later hS8
                  replace hl7 := hl7.later hS8
                  go_wp2_with (first | (refine load_guarded 27 _ rfl rfl _ rfl _ _ _ _ (hz7) Tryd.underlying27 rfl (by kernel_rfl) ?_) | (refine load_guarded 27 _ rfl rfl _ rfl _ _ _ _ (hz8) Tryd.underlying27 rfl (by kernel_rfl) ?_))
                  refine (same_any (l.prv v2) da7 ca7 da8 ca8 dk7 ck7 dk8 ck8 _ hl7.d hl8.d hl7.c hl8.c HN.out.1 HN.out.2).mono ?_
                  rintro e w9 ⟨rfl, hb⟩
                  have c9 := bl2 hb c8
                  replace k0 := k0.later hb
                  replace k5 := k5.later hb
                  replace hz7 := hz7.later hb
                  replace hl7 := hl7.later hb
                  clear hb c8 hS8 hz8 hl8 hf8 hg8
                  go_wp2_with (first | (refine wpList_load_row rfl 27 _ rfl _ rfl _ _ _ _ (hz7) Tryd.underlying27 rfl (by kernel_rfl) ?_) | (refine wpList_store_row rfl 27 _ _ rfl _ _ rfl rfl _ _ k5 (by kernel_rfl) rfl (one25 ..) ?_))
                  go_roundg (gk - 1)
                  case measure => omega
                  case rel => exact ⟨k + 1, v2, da7, ca7, dk7, ck7, by omega, by go_num, by go_num, HV2.out, rows_set hl7 hne7, Blk_setRow_ne k0 (by omega), Blk_setRow_same k5, Below_setRow c9 (by omega) _, fun u => rows_cell (rows_set hl7 hne7) hne7 u⟩
              · refine value_wp (by simp only [List.getElem_cons_zero, List.getElem_cons_succ]; go_simp; first | done | rfl | exact ⟨rfl, rfl⟩) ?_
                have hT : SB wr ((wr.alloc (.cells #[.int .i64 0, .int .i64 0, .int .i64 0, .int .i64 0, .int .i64 0, .int .i64 0, .int .i64 0, .int .i64 0, .int .i64 0, .int .i64 0, .int .i64 0, .int .i64 0, .int .i64 0, .int .i64 0, .int .i64 0, .int .i64 0, .int .i64 0, .int .i64 0, .int .i64 0, .int .i64 0, .int .i64 0, .string { data := #[] }, .string { data := #[] }, .slice none 0 0, .slice none 0 0] 27)).drew) := ((Below.refl _ _).alloc (Nat.le_refl _) _).drew
                have hN : Bk.Blk ((wr.alloc (.cells #[.int .i64 0, .int .i64 0, .int .i64 0, .int .i64 0, .int .i64 0, .int .i64 0, .int .i64 0, .int .i64 0, .int .i64 0, .int .i64 0, .int .i64 0, .int .i64 0, .int .i64 0, .int .i64 0, .int .i64 0, .int .i64 0, .int .i64 0, .int .i64 0, .int .i64 0, .int .i64 0, .int .i64 0, .string { data := #[] }, .string { data := #[] }, .slice none 0 0, .slice none 0 0] 27)).drew) wr.heap.size #[.int .i64 0, .int .i64 0, .int .i64 0, .int .i64 0, .int .i64 0, .int .i64 0, .int .i64 0, .int .i64 0, .int .i64 0, .int .i64 0, .int .i64 0, .int .i64 0, .int .i64 0, .int .i64 0, .int .i64 0, .int .i64 0, .int .i64 0, .int .i64 0, .int .i64 0, .int .i64 0, .int .i64 0, .string { data := #[] }, .string { data := #[] }, .slice none 0 0, .slice none 0 0] 27 := Bk.Blk.drew Bk.Blk.nw10
                have hg7 : wr.heap.size ≤ wr.heap.size := Nat.le_refl _
                refine hK.out _ _ hT (fun hT' => ?_)
                clear hT' hK hS
                simp only [List.getElem_cons_zero, List.getElem_cons_succ, Act.put, List.setIfInBounds_toArray, List.set_cons_zero, List.set_cons_succ]
                have hlt := hN.lt
                have hge := Below.size hT
                generalize ((wr.alloc (.cells #[.int .i64 0, .int .i64 0, .int .i64 0, .int .i64 0, .int .i64 0, .int .i64 0, .int .i64 0, .int .i64 0, .int .i64 0, .int .i64 0, .int .i64 0, .int .i64 0, .int .i64 0, .int .i64 0, .int .i64 0, .int .i64 0, .int .i64 0, .int .i64 0, .int .i64 0, .int .i64 0, .int .i64 0, .string { data := #[] }, .string { data := #[] }, .slice none 0 0, .slice none 0 0] 27)).drew) = u7 at *
                obtain ⟨g7, eg7⟩ : ∃ g, g = wr.heap.size := ⟨_, rfl⟩
                rw [← eg7] at hN hlt
                replace hg7 : wr.heap.size ≤ g7 := by omega
                rw [← eg7]
                clear eg7
                refine one_at 5 (by decide) (by kernel_rfl) (by rfl) (fun K hK => ?_)
                refine call_wp (by simp only [List.getElem_cons_zero, List.getElem_cons_succ]; go_simp; first | done | rfl | exact ⟨rfl, rfl⟩) ((HM1.out da1 ca1 dk1 ck1 u7 (hl1.later (by assumption)) (bl2 (by assumption) cwr)).mono ?_)
                rintro e v7 ⟨da7, dk7, ca7, ck7, rfl, hl7, hf7, hb⟩
                have hU := SB.mono _ _ hT hb
                replace hN := hN.later hb
                refine ⟨_, rfl, hK.out _ _ hU (fun hU' => ?_)⟩
                clear hU' hT hK
                simp only [List.getElem_cons_zero, List.getElem_cons_succ, Act.put, List.setIfInBounds_toArray, List.set_cons_zero, List.set_cons_succ]
                refine take_at 6 (by decide) (v := ?_) (by kernel_rfl) (by kernel_rfl) (by kernel_rfl) (fun _ _ _ h => h) hU (Or.inl ⟨by rfl, ?_⟩) ?_
                rotate_left
                · intro W hW
                  skip
                  clear hW
                  simp only [List.getElem_cons_zero, List.getElem_cons_succ]
                  go_simp
                  first | done | with_reducible rfl
                simp only [List.getElem_cons_zero, List.getElem_cons_succ, Act.put, List.setIfInBounds_toArray, List.set_cons_zero, List.set_cons_succ]
                refine take_at 7 (by decide) (v := ?_) (by kernel_rfl) (by kernel_rfl) (by kernel_rfl) (fun _ _ _ h => h) hU (Or.inl ⟨by rfl, ?_⟩) ?_
                rotate_left
                · intro W hW
                  skip
                  clear hW
                  simp only [List.getElem_cons_zero, List.getElem_cons_succ]
                  go_simp
                  first | done | with_reducible rfl
                simp only [List.getElem_cons_zero, List.getElem_cons_succ, Act.put, List.setIfInBounds_toArray, List.set_cons_zero, List.set_cons_succ]
                refine take_at 8 (by decide) (v := ?_) (by kernel_rfl) (by kernel_rfl) (by kernel_rfl) (fun _ _ _ h => h) hU (Or.inl ⟨by rfl, ?_⟩) ?_
                rotate_left
                · intro W hW
                  skip
                  clear hW
                  simp only [List.getElem_cons_zero, List.getElem_cons_succ]
                  go_simp
                  first | done | with_reducible rfl
                simp only [List.getElem_cons_zero, List.getElem_cons_succ, Act.put, List.setIfInBounds_toArray, List.set_cons_zero, List.set_cons_succ]
                refine take_at 9 (by decide) (v := ?_) (by kernel_rfl) (by kernel_rfl) (by kernel_rfl) (fun _ _ _ h => h) hU (Or.inl ⟨by rfl, ?_⟩) ?_
                rotate_left
                · intro W hW
                  skip
                  clear hW
                  simp only [List.getElem_cons_zero, List.getElem_cons_succ]
                  go_simp
                  first | done | with_reducible rfl
                simp only [List.getElem_cons_zero, List.getElem_cons_succ, Act.put, List.setIfInBounds_toArray, List.set_cons_zero, List.set_cons_succ]
                refine one_at 11 (by decide) (by kernel_rfl) (by rfl) (fun K hK => ?_)
                simp only [List.getElem_cons_zero, List.getElem_cons_succ]
                refine wp_store_row 27 _ _ rfl g7 _ rfl rfl _ _ (hN) (by kernel_rfl) rfl (one25 ..) ?_
                have hS7 : SB wr (v7.setRow g7 #[.int .i64 (l.prv v2).id, .int .i64 (l.prv v2).ac, .int .i64 (l.prv v2).st, .int .i64 (l.prv v2).pp, .int .i64 (l.prv v2).pi, .int .i64 (l.prv v2).fee, .int .i64 (l.prv v2).pen, .int .i64 (l.prv v2).chg, .int .i64 (l.prv v2).prov, .int .i64 (l.prv v2).loss, .int .i64 (l.prv v2).rcv, .int .i64 ((l.prv v2).tm).me, .int .i64 ((l.prv v2).tm).pr, .int .i64 ((l.prv v2).tm).ppm, .int .i64 ((l.prv v2).tm).stt, .int .i64 ((l.prv v2).tm).ev, .int .i64 ((l.prv v2).tm).ct, .int .i64 ((l.prv v2).tm).ba, .int .i64 ((l.prv v2).tm).mo, .int .i64 ((l.prv v2).tm).pen, .int .i64 ((l.prv v2).tm).fe, .string ((l.prv v2).tm).cal, .string ((l.prv v2).tm).cur, .slice da7 (l.prv v2).ds.length dk7, .slice ca7 (l.prv v2).cs.length ck7]) := Below_setRow hU hg7 _
                have hz7 : Bk.Blk (v7.setRow g7 #[.int .i64 (l.prv v2).id, .int .i64 (l.prv v2).ac, .int .i64 (l.prv v2).st, .int .i64 (l.prv v2).pp, .int .i64 (l.prv v2).pi, .int .i64 (l.prv v2).fee, .int .i64 (l.prv v2).pen, .int .i64 (l.prv v2).chg, .int .i64 (l.prv v2).prov, .int .i64 (l.prv v2).loss, .int .i64 (l.prv v2).rcv, .int .i64 ((l.prv v2).tm).me, .int .i64 ((l.prv v2).tm).pr, .int .i64 ((l.prv v2).tm).ppm, .int .i64 ((l.prv v2).tm).stt, .int .i64 ((l.prv v2).tm).ev, .int .i64 ((l.prv v2).tm).ct, .int .i64 ((l.prv v2).tm).ba, .int .i64 ((l.prv v2).tm).mo, .int .i64 ((l.prv v2).tm).pen, .int .i64 ((l.prv v2).tm).fe, .string ((l.prv v2).tm).cal, .string ((l.prv v2).tm).cur, .slice da7 (l.prv v2).ds.length dk7, .slice ca7 (l.prv v2).cs.length ck7]) g7 #[.int .i64 (l.prv v2).id, .int .i64 (l.prv v2).ac, .int .i64 (l.prv v2).st, .int .i64 (l.prv v2).pp, .int .i64 (l.prv v2).pi, .int .i64 (l.prv v2).fee, .int .i64 (l.prv v2).pen, .int .i64 (l.prv v2).chg, .int .i64 (l.prv v2).prov, .int .i64 (l.prv v2).loss, .int .i64 (l.prv v2).rcv, .int .i64 ((l.prv v2).tm).me, .int .i64 ((l.prv v2).tm).pr, .int .i64 ((l.prv v2).tm).ppm, .int .i64 ((l.prv v2).tm).stt, .int .i64 ((l.prv v2).tm).ev, .int .i64 ((l.prv v2).tm).ct, .int .i64 ((l.prv v2).tm).ba, .int .i64 ((l.prv v2).tm).mo, .int .i64 ((l.prv v2).tm).pen, .int .i64 ((l.prv v2).tm).fe, .string ((l.prv v2).tm).cal, .string ((l.prv v2).tm).cur, .slice da7 (l.prv v2).ds.length dk7, .slice ca7 (l.prv v2).cs.length ck7] 27 := Blk_setRow_same hN
                refine hK.out _ _ hS7 (fun hU' => ?_)
                clear hU' hU hK
                simp only [List.getElem_cons_zero, List.getElem_cons_succ, Act.put, List.setIfInBounds_toArray, List.set_cons_zero, List.set_cons_succ]
                replace hl7 : LoIn' (v7.setRow g7 #[.int .i64 (l.prv v2).id, .int .i64 (l.prv v2).ac, .int .i64 (l.prv v2).st, .int .i64 (l.prv v2).pp, .int .i64 (l.prv v2).pi, .int .i64 (l.prv v2).fee, .int .i64 (l.prv v2).pen, .int .i64 (l.prv v2).chg, .int .i64 (l.prv v2).prov, .int .i64 (l.prv v2).loss, .int .i64 (l.prv v2).rcv, .int .i64 ((l.prv v2).tm).me, .int .i64 ((l.prv v2).tm).pr, .int .i64 ((l.prv v2).tm).ppm, .int .i64 ((l.prv v2).tm).stt, .int .i64 ((l.prv v2).tm).ev, .int .i64 ((l.prv v2).tm).ct, .int .i64 ((l.prv v2).tm).ba, .int .i64 ((l.prv v2).tm).mo, .int .i64 ((l.prv v2).tm).pen, .int .i64 ((l.prv v2).tm).fe, .string ((l.prv v2).tm).cal, .string ((l.prv v2).tm).cur, .slice da7 (l.prv v2).ds.length dk7, .slice ca7 (l.prv v2).cs.length ck7]) _ da7 ca7 := ⟨hl7.d.blk (fun ad had => setRow_other _ _ _ _ (fun he => by have := hf7.1 ad had; omega)), hl7.c.blk (fun ad had => setRow_other _ _ _ _ (fun he => by have := hf7.2 ad had; omega))⟩
                replace hf7 : (∀ ad, da7 = some ad → wr.heap.size ≤ ad.block) ∧ (∀ ad, ca7 = some ad → wr.heap.size ≤ ad.block) := ⟨fun ad had => by have := hf7.1 ad had; omega, fun ad had => by have := hf7.2 ad had; omega⟩
                clear hge hlt hb hN
                generalize (v7.setRow g7 #[.int .i64 (l.prv v2).id, .int .i64 (l.prv v2).ac, .int .i64 (l.prv v2).st, .int .i64 (l.prv v2).pp, .int .i64 (l.prv v2).pi, .int .i64 (l.prv v2).fee, .int .i64 (l.prv v2).pen, .int .i64 (l.prv v2).chg, .int .i64 (l.prv v2).prov, .int .i64 (l.prv v2).loss, .int .i64 (l.prv v2).rcv, .int .i64 ((l.prv v2).tm).me, .int .i64 ((l.prv v2).tm).pr, .int .i64 ((l.prv v2).tm).ppm, .int .i64 ((l.prv v2).tm).stt, .int .i64 ((l.prv v2).tm).ev, .int .i64 ((l.prv v2).tm).ct, .int .i64 ((l.prv v2).tm).ba, .int .i64 ((l.prv v2).tm).mo, .int .i64 ((l.prv v2).tm).pen, .int .i64 ((l.prv v2).tm).fe, .string ((l.prv v2).tm).cal, .string ((l.prv v2).tm).cur, .slice da7 (l.prv v2).ds.length dk7, .slice ca7 (l.prv v2).cs.length ck7]) = w7 at *
                refine take_at 12 (by decide) (v := ?_) (by kernel_rfl) (by kernel_rfl) (by kernel_rfl) (fun _ _ _ h => h) hS7 (Or.inl ⟨by rfl, ?_⟩) ?_
                rotate_left
                · intro W hW
                  skip
                  clear hW
                  simp only [List.getElem_cons_zero, List.getElem_cons_succ]
                  go_simp
                  first | done | with_reducible rfl
                simp only [List.getElem_cons_zero, List.getElem_cons_succ, Act.put, List.setIfInBounds_toArray, List.set_cons_zero, List.set_cons_succ]
                refine take_at 13 (by decide) (v := ?_) (by kernel_rfl) (by kernel_rfl) (by kernel_rfl) (fun _ _ _ h => h) hS7 (Or.inl ⟨by rfl, ?_⟩) ?_
                rotate_left
                · intro W hW
                  skip
                  clear hW
                  simp only [List.getElem_cons_zero, List.getElem_cons_succ]
                  go_simp
                  first | done | with_reducible rfl
                simp only [List.getElem_cons_zero, List.getElem_cons_succ, Act.put, List.setIfInBounds_toArray, List.set_cons_zero, List.set_cons_succ]
                refine wpAnyH_done (by kernel_rfl) ?_ _
                have c7 := bl2 hS7 cwr
                have hgr := k5.lt
                replace k0 := k0.later hS7
                replace k5 := k5.later hS7
                have hne7 : (∀ ad, da7 = some ad → ad.block ≠ g5) ∧ (∀ ad, ca7 = some ad → ad.block ≠ g5) := ⟨fun ad had => by have := hf7.1 ad had; omega, fun ad had => by have := hf7.2 ad had; omega⟩
                clear hl1 HU hS7 cwr hgr hg7 hf7 HM1
                go_upto_region 8 with fail
                have hS0 : SB w7 w7.drew := (Below.refl _ _).drew
                refine wp_region_held_drew (S := SB w7) (by kernel_rfl) hS0 (fun hS => ?_)
                clear hS0
                refine take_at 0 (by decide) (by kernel_rfl) (by kernel_rfl) (by kernel_rfl) (fun _ _ _ h => h) hS (yields_load_row (by rfl) 27 (.tmp 8) rfl g7 rfl _ _ _ _ (fun W hW => (hz7.later hW)) Tryd.underlying27 rfl (by kernel_rfl)) ?_
                simp only [List.getElem_cons_zero, List.getElem_cons_succ, Act.put, List.setIfInBounds_toArray, List.set_cons_zero, List.set_cons_succ]
                refine take_at 1 (by decide) (v := ?_) (by kernel_rfl) (by kernel_rfl) (by kernel_rfl) (fun _ _ _ h => h) hS (Or.inl ⟨by rfl, ?_⟩) ?_
                rotate_left
                · intro W hW
                  skip
                  clear hW
                  simp only [List.getElem_cons_zero, List.getElem_cons_succ]
                  go_simp
                  first | done | with_reducible rfl
                simp only [List.getElem_cons_zero, List.getElem_cons_succ, Act.put, List.setIfInBounds_toArray, List.set_cons_zero, List.set_cons_succ]
                refine take_at 2 (by decide) (v := ?_) (by kernel_rfl) (by kernel_rfl) (by kernel_rfl) (fun _ _ _ h => h) hS (Or.inl ⟨by rfl, ?_⟩) ?_
                rotate_left
                · intro W hW
                  skip
                  clear hW
                  simp only [List.getElem_cons_zero, List.getElem_cons_succ]
                  go_simp
                  first | done | with_reducible rfl
                simp only [List.getElem_cons_zero, List.getElem_cons_succ, Act.put, List.setIfInBounds_toArray, List.set_cons_zero, List.set_cons_succ]
                refine take_at 3 (by decide) (v := ?_) (by kernel_rfl) (by kernel_rfl) (by kernel_rfl) (fun _ _ _ h => h) hS (Or.inl ⟨by rfl, ?_⟩) ?_
                rotate_left
                · intro W hW
                  skip
                  clear hW
                  simp only [List.getElem_cons_zero, List.getElem_cons_succ]
                  go_simp
                  first | done | with_reducible rfl
                simp only [List.getElem_cons_zero, List.getElem_cons_succ, Act.put, List.setIfInBounds_toArray, List.set_cons_zero, List.set_cons_succ]
                refine take_at 4 (by decide) (v := ?_) (by kernel_rfl) (by kernel_rfl) (by kernel_rfl) (fun _ _ _ h => h) hS (Or.inl ⟨by rfl, ?_⟩) ?_
                rotate_left
                · intro W hW
                  have q := HCL.out W (bl2 hW c7)
                  clear hW
                  simp only [List.getElem_cons_zero, List.getElem_cons_succ]
                  go_simp
                  first | done | with_reducible rfl
                simp only [List.getElem_cons_zero, List.getElem_cons_succ, Act.put, List.setIfInBounds_toArray, List.set_cons_zero, List.set_cons_succ]
                refine two_at 5 10 (by decide) (by decide) (by kernel_rfl) (by rfl) (by rfl) (fun K hK => ?_) (fun K hK => ?_)
                · refine call_wp (by simp only [List.getElem_cons_zero, List.getElem_cons_succ]; go_simp; first | done | rfl | exact ⟨rfl, rfl⟩) ((HM2.out da7 ca7 dk7 ck7 w7.drew (hl7.later (by assumption)) (bl2 (by assumption) c7)).mono ?_)
                  rintro e v8 ⟨da8, dk8, ca8, ck8, rfl, hl8, hf8, hb⟩
                  have hT := SB.mono _ _ hS hb
                  refine ⟨_, rfl, hK.out _ _ hT (fun hT' => ?_)⟩
                  clear hT' hS
                  simp only [List.getElem_cons_zero, List.getElem_cons_succ, Act.put, List.setIfInBounds_toArray, List.set_cons_zero, List.set_cons_succ]
                  refine take_at 6 (by decide) (v := ?_) (by kernel_rfl) (by kernel_rfl) (by kernel_rfl) (fun _ _ _ h => h) hT (Or.inl ⟨by rfl, ?_⟩) ?_
                  rotate_left
                  · intro W hW
                    skip
                    clear hW
                    simp only [List.getElem_cons_zero, List.getElem_cons_succ]
                    go_simp
                    first | done | with_reducible rfl
                  simp only [List.getElem_cons_zero, List.getElem_cons_succ, Act.put, List.setIfInBounds_toArray, List.set_cons_zero, List.set_cons_succ]
                  refine take_at 7 (by decide) (v := ?_) (by kernel_rfl) (by kernel_rfl) (by kernel_rfl) (fun _ _ _ h => h) hT (Or.inl ⟨by rfl, ?_⟩) ?_
                  rotate_left
                  · intro W hW
                    skip
                    clear hW
                    simp only [List.getElem_cons_zero, List.getElem_cons_succ]
                    go_simp
                    first | done | with_reducible rfl
                  simp only [List.getElem_cons_zero, List.getElem_cons_succ, Act.put, List.setIfInBounds_toArray, List.set_cons_zero, List.set_cons_succ]
                  refine take_at 8 (by decide) (v := ?_) (by kernel_rfl) (by kernel_rfl) (by kernel_rfl) (fun _ _ _ h => h) hT (Or.inl ⟨by rfl, ?_⟩) ?_
                  rotate_left
                  · intro W hW
                    skip
                    clear hW
                    simp only [List.getElem_cons_zero, List.getElem_cons_succ]
                    go_simp
                    first | done | with_reducible rfl
                  simp only [List.getElem_cons_zero, List.getElem_cons_succ, Act.put, List.setIfInBounds_toArray, List.set_cons_zero, List.set_cons_succ]
                  refine take_at 9 (by decide) (v := ?_) (by kernel_rfl) (by kernel_rfl) (by kernel_rfl) (fun _ _ _ h => h) hT (Or.inl ⟨by rfl, ?_⟩) ?_
                  rotate_left
                  · intro W hW
                    skip
                    clear hW
                    simp only [List.getElem_cons_zero, List.getElem_cons_succ]
                    go_simp
                    first | done | with_reducible rfl
                  simp only [List.getElem_cons_zero, List.getElem_cons_succ, Act.put, List.setIfInBounds_toArray, List.set_cons_zero, List.set_cons_succ]
                  refine one_at 10 (by decide) (by kernel_rfl) (by rfl) (fun K hK => ?_)
                  refine value_wp (by simp only [List.getElem_cons_zero, List.getElem_cons_succ]; go_simp; first | done | rfl | exact ⟨rfl, rfl⟩) ?_
                  have hU : SB w7 (v8.alloc (.cells #[.int .i64 0, .int .i64 0, .int .i64 0, .int .i64 0, .int .i64 0, .int .i64 0, .int .i64 0, .int .i64 0, .int .i64 0, .int .i64 0, .int .i64 0, .int .i64 0, .int .i64 0, .int .i64 0, .int .i64 0, .int .i64 0, .int .i64 0, .int .i64 0, .int .i64 0, .int .i64 0, .int .i64 0, .string { data := #[] }, .string { data := #[] }, .slice none 0 0, .slice none 0 0] 27)) := SB.mono _ _ hT ((Below.refl _ _).alloc (Nat.le_refl _) _)
                  refine hK.out _ _ hU (fun hU' => ?_)
                  clear hU'
                  simp only [List.getElem_cons_zero, List.getElem_cons_succ, Act.put, List.setIfInBounds_toArray, List.set_cons_zero, List.set_cons_succ]
                  refine one_at 11 (by decide) (by kernel_rfl) (by rfl) (fun K hK => ?_)
                  simp only [List.getElem_cons_zero, List.getElem_cons_succ]
                  refine wp_store_row 27 _ _ rfl v8.heap.size _ rfl rfl _ _ (Bk.Blk.nw10) (by kernel_rfl) rfl (one25 ..) ?_
                  have hX : Below v8.heap.size v8 ((v8.alloc (.cells #[.int .i64 0, .int .i64 0, .int .i64 0, .int .i64 0, .int .i64 0, .int .i64 0, .int .i64 0, .int .i64 0, .int .i64 0, .int .i64 0, .int .i64 0, .int .i64 0, .int .i64 0, .int .i64 0, .int .i64 0, .int .i64 0, .int .i64 0, .int .i64 0, .int .i64 0, .int .i64 0, .int .i64 0, .string { data := #[] }, .string { data := #[] }, .slice none 0 0, .slice none 0 0] 27)).setRow v8.heap.size #[.int .i64 (l.prv v2).id, .int .i64 (l.prv v2).ac, .int .i64 (l.prv v2).st, .int .i64 (l.prv v2).pp, .int .i64 (l.prv v2).pi, .int .i64 (l.prv v2).fee, .int .i64 (l.prv v2).pen, .int .i64 (l.prv v2).chg, .int .i64 (l.prv v2).prov, .int .i64 (l.prv v2).loss, .int .i64 (l.prv v2).rcv, .int .i64 ((l.prv v2).tm).me, .int .i64 ((l.prv v2).tm).pr, .int .i64 ((l.prv v2).tm).ppm, .int .i64 ((l.prv v2).tm).stt, .int .i64 ((l.prv v2).tm).ev, .int .i64 ((l.prv v2).tm).ct, .int .i64 ((l.prv v2).tm).ba, .int .i64 ((l.prv v2).tm).mo, .int .i64 ((l.prv v2).tm).pen, .int .i64 ((l.prv v2).tm).fe, .string ((l.prv v2).tm).cal, .string ((l.prv v2).tm).cur, .slice da8 (l.prv v2).ds.length dk8, .slice ca8 (l.prv v2).cs.length ck8]) := Below_setRow ((Below.refl _ _).alloc (Nat.le_refl _) _) (Nat.le_refl _) _
                  have hS8 := SB.mono _ _ hT hX
                  have hz8 : Bk.Blk ((v8.alloc (.cells #[.int .i64 0, .int .i64 0, .int .i64 0, .int .i64 0, .int .i64 0, .int .i64 0, .int .i64 0, .int .i64 0, .int .i64 0, .int .i64 0, .int .i64 0, .int .i64 0, .int .i64 0, .int .i64 0, .int .i64 0, .int .i64 0, .int .i64 0, .int .i64 0, .int .i64 0, .int .i64 0, .int .i64 0, .string { data := #[] }, .string { data := #[] }, .slice none 0 0, .slice none 0 0] 27)).setRow v8.heap.size #[.int .i64 (l.prv v2).id, .int .i64 (l.prv v2).ac, .int .i64 (l.prv v2).st, .int .i64 (l.prv v2).pp, .int .i64 (l.prv v2).pi, .int .i64 (l.prv v2).fee, .int .i64 (l.prv v2).pen, .int .i64 (l.prv v2).chg, .int .i64 (l.prv v2).prov, .int .i64 (l.prv v2).loss, .int .i64 (l.prv v2).rcv, .int .i64 ((l.prv v2).tm).me, .int .i64 ((l.prv v2).tm).pr, .int .i64 ((l.prv v2).tm).ppm, .int .i64 ((l.prv v2).tm).stt, .int .i64 ((l.prv v2).tm).ev, .int .i64 ((l.prv v2).tm).ct, .int .i64 ((l.prv v2).tm).ba, .int .i64 ((l.prv v2).tm).mo, .int .i64 ((l.prv v2).tm).pen, .int .i64 ((l.prv v2).tm).fe, .string ((l.prv v2).tm).cal, .string ((l.prv v2).tm).cur, .slice da8 (l.prv v2).ds.length dk8, .slice ca8 (l.prv v2).cs.length ck8]) v8.heap.size #[.int .i64 (l.prv v2).id, .int .i64 (l.prv v2).ac, .int .i64 (l.prv v2).st, .int .i64 (l.prv v2).pp, .int .i64 (l.prv v2).pi, .int .i64 (l.prv v2).fee, .int .i64 (l.prv v2).pen, .int .i64 (l.prv v2).chg, .int .i64 (l.prv v2).prov, .int .i64 (l.prv v2).loss, .int .i64 (l.prv v2).rcv, .int .i64 ((l.prv v2).tm).me, .int .i64 ((l.prv v2).tm).pr, .int .i64 ((l.prv v2).tm).ppm, .int .i64 ((l.prv v2).tm).stt, .int .i64 ((l.prv v2).tm).ev, .int .i64 ((l.prv v2).tm).ct, .int .i64 ((l.prv v2).tm).ba, .int .i64 ((l.prv v2).tm).mo, .int .i64 ((l.prv v2).tm).pen, .int .i64 ((l.prv v2).tm).fe, .string ((l.prv v2).tm).cal, .string ((l.prv v2).tm).cur, .slice da8 (l.prv v2).ds.length dk8, .slice ca8 (l.prv v2).cs.length ck8] 27 := Blk_setRow_same Bk.Blk.nw10
                  refine hK.out _ _ hS8 (fun hU' => ?_)
                  clear hU' hU hT hK
                  simp only [List.getElem_cons_zero, List.getElem_cons_succ, Act.put, List.setIfInBounds_toArray, List.set_cons_zero, List.set_cons_succ]
                  replace hl8 := hl8.later hX
                  replace hf8 : (∀ ad, da8 = some ad → w7.heap.size ≤ ad.block) ∧ (∀ ad, ca8 = some ad → w7.heap.size ≤ ad.block) := hf8
                  have hg8 : w7.heap.size ≤ v8.heap.size := (show w7.drew.heap.size ≤ v8.heap.size from hb.size)
                  clear hX hb
                  generalize ((v8.alloc (.cells #[.int .i64 0, .int .i64 0, .int .i64 0, .int .i64 0, .int .i64 0, .int .i64 0, .int .i64 0, .int .i64 0, .int .i64 0, .int .i64 0, .int .i64 0, .int .i64 0, .int .i64 0, .int .i64 0, .int .i64 0, .int .i64 0, .int .i64 0, .int .i64 0, .int .i64 0, .int .i64 0, .int .i64 0, .string { data := #[] }, .string { data := #[] }, .slice none 0 0, .slice none 0 0] 27)).setRow v8.heap.size #[.int .i64 (l.prv v2).id, .int .i64 (l.prv v2).ac, .int .i64 (l.prv v2).st, .int .i64 (l.prv v2).pp, .int .i64 (l.prv v2).pi, .int .i64 (l.prv v2).fee, .int .i64 (l.prv v2).pen, .int .i64 (l.prv v2).chg, .int .i64 (l.prv v2).prov, .int .i64 (l.prv v2).loss, .int .i64 (l.prv v2).rcv, .int .i64 ((l.prv v2).tm).me, .int .i64 ((l.prv v2).tm).pr, .int .i64 ((l.prv v2).tm).ppm, .int .i64 ((l.prv v2).tm).stt, .int .i64 ((l.prv v2).tm).ev, .int .i64 ((l.prv v2).tm).ct, .int .i64 ((l.prv v2).tm).ba, .int .i64 ((l.prv v2).tm).mo, .int .i64 ((l.prv v2).tm).pen, .int .i64 ((l.prv v2).tm).fe, .string ((l.prv v2).tm).cal, .string ((l.prv v2).tm).cur, .slice da8 (l.prv v2).ds.length dk8, .slice ca8 (l.prv v2).cs.length ck8]) = w8 at *
                  generalize v8.heap.size = g8 at *
                  refine take_at 12 (by decide) (v := ?_) (by kernel_rfl) (by kernel_rfl) (by kernel_rfl) (fun _ _ _ h => h) hS8 (Or.inl ⟨by rfl, ?_⟩) ?_
                  rotate_left
                  · intro W hW
                    skip
                    clear hW
                    simp only [List.getElem_cons_zero, List.getElem_cons_succ]
                    go_simp
                    first | done | with_reducible rfl
                  simp only [List.getElem_cons_zero, List.getElem_cons_succ, Act.put, List.setIfInBounds_toArray, List.set_cons_zero, List.set_cons_succ]
                  refine take_at 13 (by decide) (v := ?_) (by kernel_rfl) (by kernel_rfl) (by kernel_rfl) (fun _ _ _ h => h) hS8 (Or.inl ⟨by rfl, ?_⟩) ?_
                  rotate_left
                  · intro W hW
                    skip
                    clear hW
                    simp only [List.getElem_cons_zero, List.getElem_cons_succ]
                    go_simp
                    first | done | with_reducible rfl
                  simp only [List.getElem_cons_zero, List.getElem_cons_succ, Act.put, List.setIfInBounds_toArray, List.set_cons_zero, List.set_cons_succ]
                  refine wpAnyH_done (by kernel_rfl) ?_ _
                  have c8 := bl2 hS8 c7
                  replace k0 := k0.later hS8
                  replace k5 := k5.later hS8
                  replace hz7 := hz7.later hS8
                  replace hl7 := hl7.later hS8
                  go_wp2_with (first | (refine load_guarded 27 _ rfl rfl _ rfl _ _ _ _ (hz7) Tryd.underlying27 rfl (by kernel_rfl) ?_) | (refine load_guarded 27 _ rfl rfl _ rfl _ _ _ _ (hz8) Tryd.underlying27 rfl (by kernel_rfl) ?_))
                  refine (same_any (l.prv v2) da7 ca7 da8 ca8 dk7 ck7 dk8 ck8 _ hl7.d hl8.d hl7.c hl8.c HN.out.1 HN.out.2).mono ?_
                  rintro e w9 ⟨rfl, hb⟩
                  have c9 := bl2 hb c8
                  replace k0 := k0.later hb
                  replace k5 := k5.later hb
                  replace hz7 := hz7.later hb
                  replace hl7 := hl7.later hb
                  clear hb c8 hS8 hz8 hl8 hf8 hg8
                  go_wp2_with (first | (refine wpList_load_row rfl 27 _ rfl _ rfl _ _ _ _ (hz7) Tryd.underlying27 rfl (by kernel_rfl) ?_) | (refine wpList_store_row rfl 27 _ _ rfl _ _ rfl rfl _ _ k5 (by kernel_rfl) rfl (one25 ..) ?_))
                  go_roundg (gk - 1)
                  case measure => omega
                  case rel => exact ⟨k + 1, v2, da7, ca7, dk7, ck7, by omega, by go_num, by go_num, HV2.out, rows_set hl7 hne7, Blk_setRow_ne k0 (by omega), Blk_setRow_same k5, Below_setRow c9 (by omega) _, fun u => rows_cell (rows_set hl7 hne7) hne7 u⟩
                · refine value_wp (by simp only [List.getElem_cons_zero, List.getElem_cons_succ]; go_simp; first | done | rfl | exact ⟨rfl, rfl⟩) ?_
                  have hT : SB w7 ((w7.alloc (.cells #[.int .i64 0, .int .i64 0, .int .i64 0, .int .i64 0, .int .i64 0, .int .i64 0, .int .i64 0, .int .i64 0, .int .i64 0, .int .i64 0, .int .i64 0, .int .i64 0, .int .i64 0, .int .i64 0, .int .i64 0, .int .i64 0, .int .i64 0, .int .i64 0, .int .i64 0, .int .i64 0, .int .i64 0, .string { data := #[] }, .string { data := #[] }, .slice none 0 0, .slice none 0 0] 27)).drew) := ((Below.refl _ _).alloc (Nat.le_refl _) _).drew
                  have hN : Bk.Blk ((w7.alloc (.cells #[.int .i64 0, .int .i64 0, .int .i64 0, .int .i64 0, .int .i64 0, .int .i64 0, .int .i64 0, .int .i64 0, .int .i64 0, .int .i64 0, .int .i64 0, .int .i64 0, .int .i64 0, .int .i64 0, .int .i64 0, .int .i64 0, .int .i64 0, .int .i64 0, .int .i64 0, .int .i64 0, .int .i64 0, .string { data := #[] }, .string { data := #[] }, .slice none 0 0, .slice none 0 0] 27)).drew) w7.heap.size #[.int .i64 0, .int .i64 0, .int .i64 0, .int .i64 0, .int .i64 0, .int .i64 0, .int .i64 0, .int .i64 0, .int .i64 0, .int .i64 0, .int .i64 0, .int .i64 0, .int .i64 0, .int .i64 0, .int .i64 0, .int .i64 0, .int .i64 0, .int .i64 0, .int .i64 0, .int .i64 0, .int .i64 0, .string { data := #[] }, .string { data := #[] }, .slice none 0 0, .slice none 0 0] 27 := Bk.Blk.drew Bk.Blk.nw10
                  have hg8 : w7.heap.size ≤ w7.heap.size := Nat.le_refl _
                  refine hK.out _ _ hT (fun hT' => ?_)
                  clear hT' hK hS
                  simp only [List.getElem_cons_zero, List.getElem_cons_succ, Act.put, List.setIfInBounds_toArray, List.set_cons_zero, List.set_cons_succ]
                  have hlt := hN.lt
                  have hge := Below.size hT
                  generalize ((w7.alloc (.cells #[.int .i64 0, .int .i64 0, .int .i64 0, .int .i64 0, .int .i64 0, .int .i64 0, .int .i64 0, .int .i64 0, .int .i64 0, .int .i64 0, .int .i64 0, .int .i64 0, .int .i64 0, .int .i64 0, .int .i64 0, .int .i64 0, .int .i64 0, .int .i64 0, .int .i64 0, .int .i64 0, .int .i64 0, .string { data := #[] }, .string { data := #[] }, .slice none 0 0, .slice none 0 0] 27)).drew) = u8 at *
                  obtain ⟨g8, eg8⟩ : ∃ g, g = w7.heap.size := ⟨_, rfl⟩
                  rw [← eg8] at hN hlt
                  replace hg8 : w7.heap.size ≤ g8 := by omega
                  rw [← eg8]
                  clear eg8
                  refine one_at 5 (by decide) (by kernel_rfl) (by rfl) (fun K hK => ?_)
                  refine call_wp (by simp only [List.getElem_cons_zero, List.getElem_cons_succ]; go_simp; first | done | rfl | exact ⟨rfl, rfl⟩) ((HM2.out da7 ca7 dk7 ck7 u8 (hl7.later (by assumption)) (bl2 (by assumption) c7)).mono ?_)
                  rintro e v8 ⟨da8, dk8, ca8, ck8, rfl, hl8, hf8, hb⟩
                  have hU := SB.mono _ _ hT hb
                  replace hN := hN.later hb
                  refine ⟨_, rfl, hK.out _ _ hU (fun hU' => ?_)⟩
                  clear hU' hT hK
                  simp only [List.getElem_cons_zero, List.getElem_cons_succ, Act.put, List.setIfInBounds_toArray, List.set_cons_zero, List.set_cons_succ]
                  refine take_at 6 (by decide) (v := ?_) (by kernel_rfl) (by kernel_rfl) (by kernel_rfl) (fun _ _ _ h => h) hU (Or.inl ⟨by rfl, ?_⟩) ?_
                  rotate_left
                  · intro W hW
                    skip
                    clear hW
                    simp only [List.getElem_cons_zero, List.getElem_cons_succ]
                    go_simp
                    first | done | with_reducible rfl
                  simp only [List.getElem_cons_zero, List.getElem_cons_succ, Act.put, List.setIfInBounds_toArray, List.set_cons_zero, List.set_cons_succ]
                  refine take_at 7 (by decide) (v := ?_) (by kernel_rfl) (by kernel_rfl) (by kernel_rfl) (fun _ _ _ h => h) hU (Or.inl ⟨by rfl, ?_⟩) ?_
                  rotate_left
                  · intro W hW
                    skip
                    clear hW
                    simp only [List.getElem_cons_zero, List.getElem_cons_succ]
                    go_simp
                    first | done | with_reducible rfl
                  simp only [List.getElem_cons_zero, List.getElem_cons_succ, Act.put, List.setIfInBounds_toArray, List.set_cons_zero, List.set_cons_succ]
                  refine take_at 8 (by decide) (v := ?_) (by kernel_rfl) (by kernel_rfl) (by kernel_rfl) (fun _ _ _ h => h) hU (Or.inl ⟨by rfl, ?_⟩) ?_
                  rotate_left
                  · intro W hW
                    skip
                    clear hW
                    simp only [List.getElem_cons_zero, List.getElem_cons_succ]
                    go_simp
                    first | done | with_reducible rfl
                  simp only [List.getElem_cons_zero, List.getElem_cons_succ, Act.put, List.setIfInBounds_toArray, List.set_cons_zero, List.set_cons_succ]
                  refine take_at 9 (by decide) (v := ?_) (by kernel_rfl) (by kernel_rfl) (by kernel_rfl) (fun _ _ _ h => h) hU (Or.inl ⟨by rfl, ?_⟩) ?_
                  rotate_left
                  · intro W hW
                    skip
                    clear hW
                    simp only [List.getElem_cons_zero, List.getElem_cons_succ]
                    go_simp
                    first | done | with_reducible rfl
                  simp only [List.getElem_cons_zero, List.getElem_cons_succ, Act.put, List.setIfInBounds_toArray, List.set_cons_zero, List.set_cons_succ]
                  refine one_at 11 (by decide) (by kernel_rfl) (by rfl) (fun K hK => ?_)
                  simp only [List.getElem_cons_zero, List.getElem_cons_succ]
                  refine wp_store_row 27 _ _ rfl g8 _ rfl rfl _ _ (hN) (by kernel_rfl) rfl (one25 ..) ?_
                  have hS8 : SB w7 (v8.setRow g8 #[.int .i64 (l.prv v2).id, .int .i64 (l.prv v2).ac, .int .i64 (l.prv v2).st, .int .i64 (l.prv v2).pp, .int .i64 (l.prv v2).pi, .int .i64 (l.prv v2).fee, .int .i64 (l.prv v2).pen, .int .i64 (l.prv v2).chg, .int .i64 (l.prv v2).prov, .int .i64 (l.prv v2).loss, .int .i64 (l.prv v2).rcv, .int .i64 ((l.prv v2).tm).me, .int .i64 ((l.prv v2).tm).pr, .int .i64 ((l.prv v2).tm).ppm, .int .i64 ((l.prv v2).tm).stt, .int .i64 ((l.prv v2).tm).ev, .int .i64 ((l.prv v2).tm).ct, .int .i64 ((l.prv v2).tm).ba, .int .i64 ((l.prv v2).tm).mo, .int .i64 ((l.prv v2).tm).pen, .int .i64 ((l.prv v2).tm).fe, .string ((l.prv v2).tm).cal, .string ((l.prv v2).tm).cur, .slice da8 (l.prv v2).ds.length dk8, .slice ca8 (l.prv v2).cs.length ck8]) := Below_setRow hU hg8 _
                  have hz8 : Bk.Blk (v8.setRow g8 #[.int .i64 (l.prv v2).id, .int .i64 (l.prv v2).ac, .int .i64 (l.prv v2).st, .int .i64 (l.prv v2).pp, .int .i64 (l.prv v2).pi, .int .i64 (l.prv v2).fee, .int .i64 (l.prv v2).pen, .int .i64 (l.prv v2).chg, .int .i64 (l.prv v2).prov, .int .i64 (l.prv v2).loss, .int .i64 (l.prv v2).rcv, .int .i64 ((l.prv v2).tm).me, .int .i64 ((l.prv v2).tm).pr, .int .i64 ((l.prv v2).tm).ppm, .int .i64 ((l.prv v2).tm).stt, .int .i64 ((l.prv v2).tm).ev, .int .i64 ((l.prv v2).tm).ct, .int .i64 ((l.prv v2).tm).ba, .int .i64 ((l.prv v2).tm).mo, .int .i64 ((l.prv v2).tm).pen, .int .i64 ((l.prv v2).tm).fe, .string ((l.prv v2).tm).cal, .string ((l.prv v2).tm).cur, .slice da8 (l.prv v2).ds.length dk8, .slice ca8 (l.prv v2).cs.length ck8]) g8 #[.int .i64 (l.prv v2).id, .int .i64 (l.prv v2).ac, .int .i64 (l.prv v2).st, .int .i64 (l.prv v2).pp, .int .i64 (l.prv v2).pi, .int .i64 (l.prv v2).fee, .int .i64 (l.prv v2).pen, .int .i64 (l.prv v2).chg, .int .i64 (l.prv v2).prov, .int .i64 (l.prv v2).loss, .int .i64 (l.prv v2).rcv, .int .i64 ((l.prv v2).tm).me, .int .i64 ((l.prv v2).tm).pr, .int .i64 ((l.prv v2).tm).ppm, .int .i64 ((l.prv v2).tm).stt, .int .i64 ((l.prv v2).tm).ev, .int .i64 ((l.prv v2).tm).ct, .int .i64 ((l.prv v2).tm).ba, .int .i64 ((l.prv v2).tm).mo, .int .i64 ((l.prv v2).tm).pen, .int .i64 ((l.prv v2).tm).fe, .string ((l.prv v2).tm).cal, .string ((l.prv v2).tm).cur, .slice da8 (l.prv v2).ds.length dk8, .slice ca8 (l.prv v2).cs.length ck8] 27 := Blk_setRow_same hN
                  refine hK.out _ _ hS8 (fun hU' => ?_)
                  clear hU' hU hK
                  simp only [List.getElem_cons_zero, List.getElem_cons_succ, Act.put, List.setIfInBounds_toArray, List.set_cons_zero, List.set_cons_succ]
                  replace hl8 : LoIn' (v8.setRow g8 #[.int .i64 (l.prv v2).id, .int .i64 (l.prv v2).ac, .int .i64 (l.prv v2).st, .int .i64 (l.prv v2).pp, .int .i64 (l.prv v2).pi, .int .i64 (l.prv v2).fee, .int .i64 (l.prv v2).pen, .int .i64 (l.prv v2).chg, .int .i64 (l.prv v2).prov, .int .i64 (l.prv v2).loss, .int .i64 (l.prv v2).rcv, .int .i64 ((l.prv v2).tm).me, .int .i64 ((l.prv v2).tm).pr, .int .i64 ((l.prv v2).tm).ppm, .int .i64 ((l.prv v2).tm).stt, .int .i64 ((l.prv v2).tm).ev, .int .i64 ((l.prv v2).tm).ct, .int .i64 ((l.prv v2).tm).ba, .int .i64 ((l.prv v2).tm).mo, .int .i64 ((l.prv v2).tm).pen, .int .i64 ((l.prv v2).tm).fe, .string ((l.prv v2).tm).cal, .string ((l.prv v2).tm).cur, .slice da8 (l.prv v2).ds.length dk8, .slice ca8 (l.prv v2).cs.length ck8]) _ da8 ca8 := ⟨hl8.d.blk (fun ad had => setRow_other _ _ _ _ (fun he => by have := hf8.1 ad had; omega)), hl8.c.blk (fun ad had => setRow_other _ _ _ _ (fun he => by have := hf8.2 ad had; omega))⟩
                  replace hf8 : (∀ ad, da8 = some ad → w7.heap.size ≤ ad.block) ∧ (∀ ad, ca8 = some ad → w7.heap.size ≤ ad.block) := ⟨fun ad had => by have := hf8.1 ad had; omega, fun ad had => by have := hf8.2 ad had; omega⟩
                  clear hge hlt hb hN
                  generalize (v8.setRow g8 #[.int .i64 (l.prv v2).id, .int .i64 (l.prv v2).ac, .int .i64 (l.prv v2).st, .int .i64 (l.prv v2).pp, .int .i64 (l.prv v2).pi, .int .i64 (l.prv v2).fee, .int .i64 (l.prv v2).pen, .int .i64 (l.prv v2).chg, .int .i64 (l.prv v2).prov, .int .i64 (l.prv v2).loss, .int .i64 (l.prv v2).rcv, .int .i64 ((l.prv v2).tm).me, .int .i64 ((l.prv v2).tm).pr, .int .i64 ((l.prv v2).tm).ppm, .int .i64 ((l.prv v2).tm).stt, .int .i64 ((l.prv v2).tm).ev, .int .i64 ((l.prv v2).tm).ct, .int .i64 ((l.prv v2).tm).ba, .int .i64 ((l.prv v2).tm).mo, .int .i64 ((l.prv v2).tm).pen, .int .i64 ((l.prv v2).tm).fe, .string ((l.prv v2).tm).cal, .string ((l.prv v2).tm).cur, .slice da8 (l.prv v2).ds.length dk8, .slice ca8 (l.prv v2).cs.length ck8]) = w8 at *
                  refine take_at 12 (by decide) (v := ?_) (by kernel_rfl) (by kernel_rfl) (by kernel_rfl) (fun _ _ _ h => h) hS8 (Or.inl ⟨by rfl, ?_⟩) ?_
                  rotate_left
                  · intro W hW
                    skip
                    clear hW
                    simp only [List.getElem_cons_zero, List.getElem_cons_succ]
                    go_simp
                    first | done | with_reducible rfl
                  simp only [List.getElem_cons_zero, List.getElem_cons_succ, Act.put, List.setIfInBounds_toArray, List.set_cons_zero, List.set_cons_succ]
                  refine take_at 13 (by decide) (v := ?_) (by kernel_rfl) (by kernel_rfl) (by kernel_rfl) (fun _ _ _ h => h) hS8 (Or.inl ⟨by rfl, ?_⟩) ?_
                  rotate_left
                  · intro W hW
                    skip
                    clear hW
                    simp only [List.getElem_cons_zero, List.getElem_cons_succ]
                    go_simp
                    first | done | with_reducible rfl
                  simp only [List.getElem_cons_zero, List.getElem_cons_succ, Act.put, List.setIfInBounds_toArray, List.set_cons_zero, List.set_cons_succ]
                  refine wpAnyH_done (by kernel_rfl) ?_ _
                  have c8 := bl2 hS8 c7
                  replace k0 := k0.later hS8
                  replace k5 := k5.later hS8
                  replace hz7 := hz7.later hS8
                  replace hl7 := hl7.later hS8
                  go_wp2_with (first | (refine load_guarded 27 _ rfl rfl _ rfl _ _ _ _ (hz7) Tryd.underlying27 rfl (by kernel_rfl) ?_) | (refine load_guarded 27 _ rfl rfl _ rfl _ _ _ _ (hz8) Tryd.underlying27 rfl (by kernel_rfl) ?_))
                  refine (same_any (l.prv v2) da7 ca7 da8 ca8 dk7 ck7 dk8 ck8 _ hl7.d hl8.d hl7.c hl8.c HN.out.1 HN.out.2).mono ?_
                  rintro e w9 ⟨rfl, hb⟩
                  have c9 := bl2 hb c8
                  replace k0 := k0.later hb
                  replace k5 := k5.later hb
                  replace hz7 := hz7.later hb
                  replace hl7 := hl7.later hb
                  clear hb c8 hS8 hz8 hl8 hf8 hg8
                  go_wp2_with (first | (refine wpList_load_row rfl 27 _ rfl _ rfl _ _ _ _ (hz7) Tryd.underlying27 rfl (by kernel_rfl) ?_) | (refine wpList_store_row rfl 27 _ _ rfl _ _ rfl rfl _ _ k5 (by kernel_rfl) rfl (one25 ..) ?_))
                  go_roundg (gk - 1)
                  case measure => omega
                  case rel => exact ⟨k + 1, v2, da7, ca7, dk7, ck7, by omega, by go_num, by go_num, HV2.out, rows_set hl7 hne7, Blk_setRow_ne k0 (by omega), Blk_setRow_same k5, Below_setRow c9 (by omega) _, fun u => rows_cell (rows_set hl7 hne7) hne7 u⟩
            · have g4 : decide ((k : Int) < (ds.length : Int)) = false := decide_eq_false (by omega)
              have l5 := k5.c8
              have l0 := k0.c8
              have f5 := k5.f8
              have hpb := amt_iff.1 HOK.out.prov
              have hsum : IntKind.i64.wrap (l.prov + (v - l.prov)) = v := by rw [IntKind.wrap_i64]; omega
              have gvv : ((l.prv v).prov != v) = false := by rw [show (l.prv v).prov = v from rfl]; simp
              clear hpb
              go_upto_region 15 with fail
              have k6 : Bk.Blk (wr.setCell ⟨g5, 8, none⟩ (.int .i64 l.prov)) g5 #[.int .i64 (l).id, .int .i64 (l).ac, .int .i64 (l).st, .int .i64 (l).pp, .int .i64 (l).pi, .int .i64 (l).fee, .int .i64 (l).pen, .int .i64 (l).chg, .int .i64 (l).prov, .int .i64 (l).loss, .int .i64 (l).rcv, .int .i64 ((l).tm).me, .int .i64 ((l).tm).pr, .int .i64 ((l).tm).ppm, .int .i64 ((l).tm).stt, .int .i64 ((l).tm).ev, .int .i64 ((l).tm).ct, .int .i64 ((l).tm).ba, .int .i64 ((l).tm).mo, .int .i64 ((l).tm).pen, .int .i64 ((l).tm).fe, .string ((l).tm).cal, .string ((l).tm).cur, .slice da1 (l).ds.length dk1, .slice ca1 (l).cs.length ck1] 27 := (k5.set_same (i := 8) (u := .int .i64 l.prov)).conv rfl
              have c6 : Below w.heap.size w (wr.setCell ⟨g5, 8, none⟩ (.int .i64 l.prov)) := cwr.setCell (show w.heap.size ≤ g5 by omega) _
              have hl6 := HU.out (.int .i64 l.prov)
              replace k0 := k0.set_ne (g' := g5) (j := 8) (u := .int .i64 l.prov) (by omega)
              clear l5 l0 f5 k5 HU hl1
              generalize wr.setCell ⟨g5, 8, none⟩ (.int .i64 l.prov) = w6 at *
              go_wp2_with (first | (refine wpList_load_row rfl 27 _ rfl _ rfl _ _ _ _ (k6) Tryd.underlying27 rfl (by kernel_rfl) ?_) | (refine wpList_load_row rfl 27 _ rfl _ rfl _ _ _ _ (k0) Tryd.underlying27 rfl (by kernel_rfl) ?_))
              refine (same_any l da1 ca1 da ca dk1 ck1 dk ck _ hl6.d (HH.out _ c6).d hl6.c (HH.out _ c6).c HN.out.1 HN.out.2).mono ?_
              rintro e w7 ⟨rfl, hb⟩
              have c7 := bl2 hb c6
              go_wp2_with fail
              refine (HLV.out _ c7).mono ?_
              rintro e w8 ⟨rfl, hb8⟩
              have c8 := bl2 hb8 c7
              go_wp2_with fail
              go_ret
              exact ⟨rfl, c8⟩
        · refine (Rd.rgood_no _ _ hg).mono ?_
          rintro e w' ⟨rfl, rfl⟩
          clear hg
          go_wp2_with fail
          refine (HLV.out _ cw3).mono ?_
          rintro e wy ⟨rfl, hb⟩
          have cwy := bl2 hb cw3
          go_wp2_with fail
          go_ret
          exact ⟨rfl, cwy⟩
      · have q1 : (ch != 0) = true := bne_iff_ne.2 hch
        clear hch HCK
        go_wp2_with fail
        refine (HLV.out _ cw2).mono ?_
        rintro e wy ⟨rfl, hb⟩
        have cwy := bl2 hb cw2
        go_wp2_with fail
        go_ret
        exact ⟨rfl, cwy⟩
  · go_wp2_with fail
    refine (HLV.out _ cw1).mono ?_
    rintro e wy ⟨rfl, hb⟩
    have cwy := bl2 hb cw1
    go_wp2_with fail
    go_ret
    exact ⟨rfl, cwy⟩
end Go.Proofs.YtjicnlgndkcahaaDoor.Ln
