/-
  Parts of the proof: B28.
-/
import Derived.Test.YtlolflephnbbcaaGreatDoorQ48
namespace Go.Proofs.YtlolflephnbbcaaGreatDoor.Ln
open Go Go.RowKit
open Go.Proofs.YtlolflephnbbcaaGreatDoor
open Go.Proofs.YtlolflephnbbcaaGreatDoor.Kl (Cl CalIn skE)
set_option linter.unusedSimpArgs false
set_option linter.unusedVariables false
set_option maxRecDepth 100000
theorem RowIn.none2 {W : World} {a : Option Addr} {xs : List Ch} (h : xs = []) : RowIn cenc W a xs := by
 subst h
 exact fun h => absurd h (Nat.not_lt_zero _)
theorem prv_0 {l : Lo} (h : l.prov = 0) : l.prv 0 = l := by
 cases l
 cases h
 rfl
def tlR (w : World) (t : Tm) (l : Lo) (gq : Nat) (ds : List Int) (g : Nat) (s9 s10 : Value) (W : World) : Prop :=
 ∃ (k : Nat) (v : Int) (da' ca' : Option Addr) (dk' ck' : Nat), k + g = ds.length ∧ s10 = .int .i64 k ∧ s9 = .int .i64 v ∧ (0 ≤ v ∧ v ≤ 1000000000000) ∧ LoIn' W (l.prv v) da' ca' ∧
  Bk.Blk W w.heap.size #[.int .i64 (t).me, .int .i64 (t).pr, .int .i64 (t).ppm, .int .i64 (t).stt, .int .i64 (t).ev, .int .i64 (t).ct, .int .i64 (t).ba, .int .i64 (t).mo, .int .i64 (t).pen, .int .i64 (t).fe, .string (t).cal, .string (t).cur] 23 ∧ Bk.Blk W gq #[.int .i64 (l.prv v).id, .int .i64 (l.prv v).ac, .int .i64 (l.prv v).st, .int .i64 (l.prv v).pp, .int .i64 (l.prv v).pi, .int .i64 (l.prv v).fee, .int .i64 (l.prv v).pen, .int .i64 (l.prv v).chg, .int .i64 (l.prv v).prov, .int .i64 (l.prv v).loss, .int .i64 (l.prv v).rcv, .int .i64 ((l.prv v).tm).me, .int .i64 ((l.prv v).tm).pr, .int .i64 ((l.prv v).tm).ppm, .int .i64 ((l.prv v).tm).stt, .int .i64 ((l.prv v).tm).ev, .int .i64 ((l.prv v).tm).ct, .int .i64 ((l.prv v).tm).ba, .int .i64 ((l.prv v).tm).mo, .int .i64 ((l.prv v).tm).pen, .int .i64 ((l.prv v).tm).fe, .string ((l.prv v).tm).cal, .string ((l.prv v).tm).cur, .slice da' (l.prv v).ds.length dk', .slice ca' (l.prv v).cs.length ck'] 32 ∧ Below w.heap.size w W
set_option maxHeartbeats 64000000 in
theorem topLoss_walk (t : Tm) (c : Cl) (wa ha : Option Addr) (wc hc : Nat) (dsa : Option Addr) (dsk : Nat) (ds : List Int) (hcu : t.cur.size ≤ maxLen) (w : World) (h : CalIn w c wa ha) (hds : Bk.IntsIn w dsa ds) (hs : Rd.Stp w ∧ Ctb w ∧ Bm.Tab w) :
  Calls Tryz.prog 3 #[(.agg #[.int .i64 (t).me, .int .i64 (t).pr, .int .i64 (t).ppm, .int .i64 (t).stt, .int .i64 (t).ev, .int .i64 (t).ct, .int .i64 (t).ba, .int .i64 (t).mo, .int .i64 (t).pen, .int .i64 (t).fe, .string (t).cal, .string (t).cur]), (.agg #[.string (c).nm, .slice wa (c).wk.length wc, .slice ha (c).hol.length hc]), .slice dsa ds.length dsk] w fun e w' => e = .returned (.bool true) ∧ Below w.heap.size w w' := by
 have cw : Below w.heap.size w ((w.alloc (.cells #[.int .i64 (t).me, .int .i64 (t).pr, .int .i64 (t).ppm, .int .i64 (t).stt, .int .i64 (t).ev, .int .i64 (t).ct, .int .i64 (t).ba, .int .i64 (t).mo, .int .i64 (t).pen, .int .i64 (t).fe, .string (t).cal, .string (t).cur] 23)).alloc (.cells #[.string c.nm, .slice wa c.wk.length wc, .slice ha c.hol.length hc] 26)) := ((Below.refl _ _).alloc (Nat.le_refl _) _).alloc (by simp) _
 have kt : Bk.Blk ((w.alloc (.cells #[.int .i64 (t).me, .int .i64 (t).pr, .int .i64 (t).ppm, .int .i64 (t).stt, .int .i64 (t).ev, .int .i64 (t).ct, .int .i64 (t).ba, .int .i64 (t).mo, .int .i64 (t).pen, .int .i64 (t).fe, .string (t).cal, .string (t).cur] 23)).alloc (.cells #[.string c.nm, .slice wa c.wk.length wc, .slice ha c.hol.length hc] 26)) w.heap.size _ 23 := Bk.Blk.nw20
 have kc : Bk.Blk ((w.alloc (.cells #[.int .i64 (t).me, .int .i64 (t).pr, .int .i64 (t).ppm, .int .i64 (t).stt, .int .i64 (t).ev, .int .i64 (t).ct, .int .i64 (t).ba, .int .i64 (t).mo, .int .i64 (t).pen, .int .i64 (t).fe, .string (t).cal, .string (t).cur] 23)).alloc (.cells #[.string c.nm, .slice wa c.wk.length wc, .slice ha c.hol.length hc] 26)) (w.heap.size + 1) _ 26 := Bk.Blk.nw21
 have HT := Lib.hid (fun (W : World) (hW : Below w.heap.size w W) => And.intro (hs.1.of hW) (And.intro (hs.2.1.of hW) (hs.2.2.of hW)))
 have HEZ := Lib.hid (fun (W : World) (hW : Below w.heap.size w W) => easy_any t c wa ha wc hc W (h.later hW) hcu)
 have HDI := Lib.hid (fun (W : World) (hW : Below w.heap.size w W) => dis_any 7 1000 t c wa ha wc hc W (h.later hW) hcu (HT.out W hW).1)
 have HLO := Lib.hid (fun (W : World) (hW : Below w.heap.size w W) => loses_any W (HT.out W hW).2.1 (HT.out W hW).1 (HT.out W hW).2.2)
 have HDS := Lib.hid hds
 have HTF := Lib.hid (fun (h : disE 7 1000 t c = 0) => tl_facts h)
 have HLEN := Lib.hid (dis_len 7 1000 t c)
 unfold DisOut at HDI
 clear h hds hs hcu
 generalize ezB t c = ez at *
 obtain ⟨A, hA⟩ : ∃ A, A = disL 7 1000 t c := ⟨_, rfl⟩
 obtain ⟨E, hE⟩ : ∃ E, E = disE 7 1000 t c := ⟨_, rfl⟩
 rw [← hA, ← hE] at HDI HTF
 rw [← hA] at HLEN
 clear hA hE
 go_enter Tryz.func3, Tryz.ntmps3
 go_upto_region 1 with fail
 have cw1 := cw
 clear cw
 generalize ((w.alloc (.cells _ 23)).alloc (.cells _ 26)) = w1 at *
 go_wp2_with (first | (refine wpList_load_row rfl 23 _ rfl _ rfl _ _ _ _ kt Tryz.underlying23 rfl (by kernel_rfl) ?_) | (refine wpList_load_row rfl 26 _ rfl _ rfl _ _ _ _ kc Tryz.underlying26 rfl (by kernel_rfl) ?_))
 refine (HEZ.out _ cw1).mono ?_
 rintro e w2 ⟨rfl, hb⟩
 replace kt := kt.later hb
 replace kc := kc.later hb
 have cw2 := bl2 hb cw1
 clear hb cw1
 clear HEZ
 cases ez
 ·go_wp2_with fail
  refine (HLO.out _ cw2).mono ?_
  rintro e wy ⟨rfl, hb⟩
  have cy := bl2 hb cw2
  go_wp2_with fail
  go_ret
  exact ⟨rfl, cy⟩
 ·by_cases h10 : 10 < ds.length
  ·have g1 : decide ((10 : Int) < (ds.length : Int)) = true := decide_eq_true (by omega)
   clear h10
   go_wp2_with fail
   refine (HLO.out _ cw2).mono ?_
   rintro e wy ⟨rfl, hb⟩
   have cy := bl2 hb cw2
   go_wp2_with fail
   go_ret
   exact ⟨rfl, cy⟩
  ·have HDN := Lib.hid (show ds.length ≤ 10 by omega)
   have g1 : decide ((10 : Int) < (ds.length : Int)) = false := decide_eq_false (by omega)
   clear h10
   go_wp2_with (first | (refine wpList_load_row rfl 23 _ rfl _ rfl _ _ _ _ kt Tryz.underlying23 rfl (by kernel_rfl) ?_) | (refine wpList_load_row rfl 26 _ rfl _ rfl _ _ _ _ kc Tryz.underlying26 rfl (by kernel_rfl) ?_))
   refine (HDI.out _ cw2).mono ?_
   rintro e w3 ⟨da, dk, rfl, hd, hb⟩
   replace kt := kt.later hb
   replace kc := kc.later hb
   have cw3 := bl2 hb cw2
   clear hb cw2
   clear HDI g1 kc
   go_upto_region 4 with (refine wpList_store_row rfl 32 _ _ rfl _ _ rfl rfl _ _ Bk.Blk.nw10 (by kernel_rfl) rfl (one25 ..) ?_)
   have hbs : Below w3.heap.size w3 ((w3.alloc (.cells #[.int .i64 0, .int .i64 0, .int .i64 0, .int .i64 0, .int .i64 0, .int .i64 0, .int .i64 0, .int .i64 0, .int .i64 0, .int .i64 0, .int .i64 0, .int .i64 0, .int .i64 0, .int .i64 0, .int .i64 0, .int .i64 0, .int .i64 0, .int .i64 0, .int .i64 0, .int .i64 0, .int .i64 0, .string { data := #[] }, .string { data := #[] }, .slice none 0 0, .slice none 0 0] 32)).setRow w3.heap.size #[.int .i64 (A).id, .int .i64 (A).ac, .int .i64 (A).st, .int .i64 (A).pp, .int .i64 (A).pi, .int .i64 (A).fee, .int .i64 (A).pen, .int .i64 (A).chg, .int .i64 (A).prov, .int .i64 (A).loss, .int .i64 (A).rcv, .int .i64 ((A).tm).me, .int .i64 ((A).tm).pr, .int .i64 ((A).tm).ppm, .int .i64 ((A).tm).stt, .int .i64 ((A).tm).ev, .int .i64 ((A).tm).ct, .int .i64 ((A).tm).ba, .int .i64 ((A).tm).mo, .int .i64 ((A).tm).pen, .int .i64 ((A).tm).fe, .string ((A).tm).cal, .string ((A).tm).cur, .slice da (A).ds.length dk, .slice none (A).cs.length 0]) := Below_setRow ((Below.refl _ _).alloc (Nat.le_refl _) _) (Nat.le_refl _) _
   have k7 : Bk.Blk ((w3.alloc (.cells #[.int .i64 0, .int .i64 0, .int .i64 0, .int .i64 0, .int .i64 0, .int .i64 0, .int .i64 0, .int .i64 0, .int .i64 0, .int .i64 0, .int .i64 0, .int .i64 0, .int .i64 0, .int .i64 0, .int .i64 0, .int .i64 0, .int .i64 0, .int .i64 0, .int .i64 0, .int .i64 0, .int .i64 0, .string { data := #[] }, .string { data := #[] }, .slice none 0 0, .slice none 0 0] 32)).setRow w3.heap.size #[.int .i64 (A).id, .int .i64 (A).ac, .int .i64 (A).st, .int .i64 (A).pp, .int .i64 (A).pi, .int .i64 (A).fee, .int .i64 (A).pen, .int .i64 (A).chg, .int .i64 (A).prov, .int .i64 (A).loss, .int .i64 (A).rcv, .int .i64 ((A).tm).me, .int .i64 ((A).tm).pr, .int .i64 ((A).tm).ppm, .int .i64 ((A).tm).stt, .int .i64 ((A).tm).ev, .int .i64 ((A).tm).ct, .int .i64 ((A).tm).ba, .int .i64 ((A).tm).mo, .int .i64 ((A).tm).pen, .int .i64 ((A).tm).fe, .string ((A).tm).cal, .string ((A).tm).cur, .slice da (A).ds.length dk, .slice none (A).cs.length 0]) w3.heap.size _ 32 := Blk_setRow_same Bk.Blk.nw10
   have htw := kt.lt
   replace kt := kt.later hbs
   replace hd := hd.later hbs
   have cw4 := bl2 hbs cw3
   clear cw3 hbs
   generalize ((w3.alloc (.cells _ 32)).setRow w3.heap.size _) = w4 at *
   generalize w3.heap.size = gq at *
   by_cases hE : E = 0
   ·have g1 : (E != 0) = false := by rw [hE]; rfl
    have HK := Lib.hid (HTF.out hE)
    have HN := Lib.hid (show A.ds.length ≤ 100000 ∧ A.cs.length ≤ 100000 from ⟨HLEN.out.1, by rw [HLEN.out.2]; simp⟩)
    have hl4 : LoIn' w4 (A.prv 0) da none := ⟨hd.row, RowIn.none2 HLEN.out.2⟩
    have k7' : Bk.Blk w4 gq #[.int .i64 (A.prv 0).id, .int .i64 (A.prv 0).ac, .int .i64 (A.prv 0).st, .int .i64 (A.prv 0).pp, .int .i64 (A.prv 0).pi, .int .i64 (A.prv 0).fee, .int .i64 (A.prv 0).pen, .int .i64 (A.prv 0).chg, .int .i64 (A.prv 0).prov, .int .i64 (A.prv 0).loss, .int .i64 (A.prv 0).rcv, .int .i64 ((A.prv 0).tm).me, .int .i64 ((A.prv 0).tm).pr, .int .i64 ((A.prv 0).tm).ppm, .int .i64 ((A.prv 0).tm).stt, .int .i64 ((A.prv 0).tm).ev, .int .i64 ((A.prv 0).tm).ct, .int .i64 ((A.prv 0).tm).ba, .int .i64 ((A.prv 0).tm).mo, .int .i64 ((A.prv 0).tm).pen, .int .i64 ((A.prv 0).tm).fe, .string ((A.prv 0).tm).cal, .string ((A.prv 0).tm).cur, .slice da (A.prv 0).ds.length dk, .slice none (A.prv 0).cs.length 0] 32 := k7.conv (by rw [prv_0 HK.out.2.2.2.1, HLEN.out.2])
    clear hE HTF HLEN hd k7
    have hgd : Rd.gd (wrap64 (P A.ds - A.pp)) := by rw [HK.out.2.1]; have := HK.out.2.2.1; exact ⟨by omega, by omega⟩
    have HGD := Lib.hid hgd
    have HMV := Lib.hid (fun (v : Int) (h0 : 0 ≤ v ∧ v ≤ 1000000000000) (on : Int) => mv_prv HK.out.1 HGD.out h0.1 h0.2 on)
    have HMC := Lib.hid (fun (v : Int) (h0 : 0 ≤ v ∧ v ≤ 1000000000000) (on : Int) (da1 ca1 : Option Addr) (dk1 ck1 : Nat) (W : World) (hl1 : LoIn' W (A.prv v) da1 ca1) (hW : Below w.heap.size w W) => mov_prv HK.out.1 HGD.out HN.out h0 on da1 ca1 dk1 ck1 W hl1 (HT.out W hW).2.1 (HT.out W hW).1)
    clear hgd
    go_wp2_with fail
    go_loopg [9, 10] ds.length (tlR w t A gq ds)
    case atStart => exact ⟨0, 0, da, none, dk, 0, by omega, rfl, rfl, by omega, hl4, kt, k7', cw4⟩
    case round =>
     clear kt k7' hl4 cw4
     obtain ⟨k, v, da1, ca1, dk1, ck1, hk, rfl, rfl, hv, hl1, kt, k7, cwr⟩ := hrel
     have HVV := Lib.hid hv
     have hk12 := HDN.out
     by_cases hlt : k < ds.length
     ·obtain ⟨b, off, rfl, hc⟩ := HDS.out.2 (by omega)
      have hcell := hc k hlt
      obtain ⟨on, hon⟩ : ∃ n, n = ds.getD k 0 := ⟨_, rfl⟩
      rw [← hon] at hcell
      have HCL := Lib.hid (fun (W : World) (hW : Below w.heap.size w W) => cell_later hW hcell)
      clear hcell hc hon
      have g4 : decide ((k : Int) < (ds.length : Int)) = true := decide_eq_true (by omega)
      by_cases hlo : on < t.stt
      ·have g5 : decide (on < t.stt) = true := decide_eq_true hlo
       clear hlo
       go_upto_region 10 with fail
       have hS0 : SB wr wr.drew := (Below.refl _ _).drew
       refine wp_region_held_drew (S := SB wr) (by kernel_rfl) hS0 (fun hS => ?_)
       clear hS0
       refine tk 0 (by decide) ?_ hS (by kernel_rfl) (by kernel_rfl) (by kernel_rfl) (by rfl) (fun _ _ _ h => h) ?_ ?_
       rotate_left
       ·intro W hW
        clear hW
        simp only [z0, z1]
        go_simp
        first | done | with_reducible rfl
       simp only [z0, z1, Act.put, z3, z4, z5]
       refine tk 1 (by decide) ?_ hS (by kernel_rfl) (by kernel_rfl) (by kernel_rfl) (by rfl) (fun _ _ _ h => h) ?_ ?_
       rotate_left
       ·intro W hW
        clear hW
        simp only [z0, z1]
        go_simp
        first | done | with_reducible rfl
       simp only [z0, z1, Act.put, z3, z4, z5]
       refine tk 2 (by decide) ?_ hS (by kernel_rfl) (by kernel_rfl) (by kernel_rfl) (by rfl) (fun _ _ _ h => h) ?_ ?_
       rotate_left
       ·intro W hW
        clear hW
        simp only [z0, z1]
        go_simp
        first | done | with_reducible rfl
       simp only [z0, z1, Act.put, z3, z4, z5]
       refine tk 3 (by decide) ?_ hS (by kernel_rfl) (by kernel_rfl) (by kernel_rfl) (by rfl) (fun _ _ _ h => h) ?_ ?_
       rotate_left
       ·intro W hW
        have q := HCL.out W (bl2 hW cwr)
        clear hW
        simp only [z0, z1]
        go_simp
        first | done | with_reducible rfl
       simp only [z0, z1, Act.put, z3, z4, z5]
       refine tk 4 (by decide) ?_ hS (by kernel_rfl) (by kernel_rfl) (by kernel_rfl) (by rfl) (fun _ _ _ h => h) ?_ ?_
       rotate_left
       ·intro W hW
        clear hW
        simp only [z0, z1]
        go_simp
        first | done | with_reducible rfl
       simp only [z0, z1, Act.put, z3, z4, z5]
       refine tk 5 (by decide) ?_ hS (by kernel_rfl) (by kernel_rfl) (by kernel_rfl) (by rfl) (fun _ _ _ h => h) ?_ ?_
       rotate_left
       ·intro W hW
        have q := (kt.later hW).c3
        clear hW
        simp only [z0, z1]
        go_simp
        first | done | with_reducible rfl
       simp only [z0, z1, Act.put, z3, z4, z5]
       refine tk 6 (by decide) ?_ hS (by kernel_rfl) (by kernel_rfl) (by kernel_rfl) (by rfl) (fun _ _ _ h => h) ?_ ?_
       rotate_left
       ·intro W hW
        clear hW
        simp only [z0, z1]
        go_simp
        first | done | with_reducible rfl
       simp only [z0, z1, Act.put, z3, z4, z5]
       refine tk 7 (by decide) ?_ hS (by kernel_rfl) (by kernel_rfl) (by kernel_rfl) (by rfl) (fun _ _ _ h => h) ?_ ?_
       rotate_left
       ·intro W hW
        clear hW
        simp only [z0, z1]
        go_simp
        first | done | with_reducible rfl
       simp only [z0, z1, Act.put, z3, z4, z5]
       refine ts 8 (by decide) hS (by kernel_rfl) (by kernel_rfl) (by kernel_rfl) (by rfl) (fun _ _ _ h => h) ?_
       simp only [z0, z1, Act.put, z3, z4, z5]
       refine ts 9 (by decide) hS (by kernel_rfl) (by kernel_rfl) (by kernel_rfl) (by rfl) (fun _ _ _ h => h) ?_
       simp only [z0, z1, Act.put, z3, z4, z5]
       refine ts 10 (by decide) hS (by kernel_rfl) (by kernel_rfl) (by kernel_rfl) (by rfl) (fun _ _ _ h => h) ?_
       simp only [z0, z1, Act.put, z3, z4, z5]
       refine ts 11 (by decide) hS (by kernel_rfl) (by kernel_rfl) (by kernel_rfl) (by rfl) (fun _ _ _ h => h) ?_
       simp only [z0, z1, Act.put, z3, z4, z5]
       refine ts 12 (by decide) hS (by kernel_rfl) (by kernel_rfl) (by kernel_rfl) (by rfl) (fun _ _ _ h => h) ?_
       simp only [z0, z1, Act.put, z3, z4, z5]
       refine tk 13 (by decide) ?_ hS (by kernel_rfl) (by kernel_rfl) (by kernel_rfl) (by rfl) (fun _ _ _ h => h) ?_ ?_
       rotate_left
       ·intro W hW
        clear hW
        simp only [z0, z1]
        go_simp
        first | done | with_reducible rfl
       simp only [z0, z1, Act.put, z3, z4, z5]
       refine wpAnyH_done (by kernel_rfl) ?_ _
       have cw7 := bl2 hS cwr
       replace kt := kt.later hS
       replace k7 := k7.later hS
       replace hl1 := hl1.later hS
       clear hS cwr
       generalize wr.drew = wq at *
       go_wp2_with fail
       go_roundg (gk - 1)
       case measure => omega
       case rel => exact ⟨k + 1, v, da1, ca1, dk1, ck1, by omega, by go_num, rfl, hv, hl1, kt, k7, cw7⟩
      ·by_cases hhi : 73048 < on
       ·have g5 : decide (on < t.stt) = false := decide_eq_false hlo
        have g6 : decide (73048 < on) = true := decide_eq_true hhi
        clear hlo hhi
        go_upto_region 10 with fail
        have hS0 : SB wr wr.drew := (Below.refl _ _).drew
        refine wp_region_held_drew (S := SB wr) (by kernel_rfl) hS0 (fun hS => ?_)
        clear hS0
        refine tk 0 (by decide) ?_ hS (by kernel_rfl) (by kernel_rfl) (by kernel_rfl) (by rfl) (fun _ _ _ h => h) ?_ ?_
        rotate_left
        ·intro W hW
         clear hW
         simp only [z0, z1]
         go_simp
         first | done | with_reducible rfl
        simp only [z0, z1, Act.put, z3, z4, z5]
        refine tk 1 (by decide) ?_ hS (by kernel_rfl) (by kernel_rfl) (by kernel_rfl) (by rfl) (fun _ _ _ h => h) ?_ ?_
        rotate_left
        ·intro W hW
         clear hW
         simp only [z0, z1]
         go_simp
         first | done | with_reducible rfl
        simp only [z0, z1, Act.put, z3, z4, z5]
        refine tk 2 (by decide) ?_ hS (by kernel_rfl) (by kernel_rfl) (by kernel_rfl) (by rfl) (fun _ _ _ h => h) ?_ ?_
        rotate_left
        ·intro W hW
         clear hW
         simp only [z0, z1]
         go_simp
         first | done | with_reducible rfl
        simp only [z0, z1, Act.put, z3, z4, z5]
        refine tk 3 (by decide) ?_ hS (by kernel_rfl) (by kernel_rfl) (by kernel_rfl) (by rfl) (fun _ _ _ h => h) ?_ ?_
        rotate_left
        ·intro W hW
         have q := HCL.out W (bl2 hW cwr)
         clear hW
         simp only [z0, z1]
         go_simp
         first | done | with_reducible rfl
        simp only [z0, z1, Act.put, z3, z4, z5]
        refine tk 4 (by decide) ?_ hS (by kernel_rfl) (by kernel_rfl) (by kernel_rfl) (by rfl) (fun _ _ _ h => h) ?_ ?_
        rotate_left
        ·intro W hW
         clear hW
         simp only [z0, z1]
         go_simp
         first | done | with_reducible rfl
        simp only [z0, z1, Act.put, z3, z4, z5]
        refine tk 5 (by decide) ?_ hS (by kernel_rfl) (by kernel_rfl) (by kernel_rfl) (by rfl) (fun _ _ _ h => h) ?_ ?_
        rotate_left
        ·intro W hW
         have q := (kt.later hW).c3
         clear hW
         simp only [z0, z1]
         go_simp
         first | done | with_reducible rfl
        simp only [z0, z1, Act.put, z3, z4, z5]
        refine tk 6 (by decide) ?_ hS (by kernel_rfl) (by kernel_rfl) (by kernel_rfl) (by rfl) (fun _ _ _ h => h) ?_ ?_
        rotate_left
        ·intro W hW
         clear hW
         simp only [z0, z1]
         go_simp
         first | done | with_reducible rfl
        simp only [z0, z1, Act.put, z3, z4, z5]
        refine tk 7 (by decide) ?_ hS (by kernel_rfl) (by kernel_rfl) (by kernel_rfl) (by rfl) (fun _ _ _ h => h) ?_ ?_
        rotate_left
        ·intro W hW
         clear hW
         simp only [z0, z1]
         go_simp
         first | done | with_reducible rfl
        simp only [z0, z1, Act.put, z3, z4, z5]
        refine tk 8 (by decide) ?_ hS (by kernel_rfl) (by kernel_rfl) (by kernel_rfl) (by rfl) (fun _ _ _ h => h) ?_ ?_
        rotate_left
        ·intro W hW
         clear hW
         simp only [z0, z1]
         go_simp
         first | done | with_reducible rfl
        simp only [z0, z1, Act.put, z3, z4, z5]
        refine tk 9 (by decide) ?_ hS (by kernel_rfl) (by kernel_rfl) (by kernel_rfl) (by rfl) (fun _ _ _ h => h) ?_ ?_
        rotate_left
        ·intro W hW
         clear hW
         simp only [z0, z1]
         go_simp
         first | done | with_reducible rfl
        simp only [z0, z1, Act.put, z3, z4, z5]
        refine tk 10 (by decide) ?_ hS (by kernel_rfl) (by kernel_rfl) (by kernel_rfl) (by rfl) (fun _ _ _ h => h) ?_ ?_
        rotate_left
        ·intro W hW
         clear hW
         simp only [z0, z1]
         go_simp
         first | done | with_reducible rfl
        simp only [z0, z1, Act.put, z3, z4, z5]
        refine tk 11 (by decide) ?_ hS (by kernel_rfl) (by kernel_rfl) (by kernel_rfl) (by rfl) (fun _ _ _ h => h) ?_ ?_
        rotate_left
        ·intro W hW
         have q := HCL.out W (bl2 hW cwr)
         clear hW
         simp only [z0, z1]
         go_simp
         first | done | with_reducible rfl
        simp only [z0, z1, Act.put, z3, z4, z5]
        refine tk 12 (by decide) ?_ hS (by kernel_rfl) (by kernel_rfl) (by kernel_rfl) (by rfl) (fun _ _ _ h => h) ?_ ?_
        rotate_left
        ·intro W hW
         clear hW
         simp only [z0, z1]
         go_simp
         first | done | with_reducible rfl
        simp only [z0, z1, Act.put, z3, z4, z5]
        refine tk 13 (by decide) ?_ hS (by kernel_rfl) (by kernel_rfl) (by kernel_rfl) (by rfl) (fun _ _ _ h => h) ?_ ?_
        rotate_left
        ·intro W hW
         clear hW
         simp only [z0, z1]
         go_simp
         first | done | with_reducible rfl
        simp only [z0, z1, Act.put, z3, z4, z5]
        refine wpAnyH_done (by kernel_rfl) ?_ _
        have cw7 := bl2 hS cwr
        replace kt := kt.later hS
        replace k7 := k7.later hS
        replace hl1 := hl1.later hS
        clear hS cwr
        generalize wr.drew = wq at *
        go_wp2_with fail
        go_roundg (gk - 1)
        case measure => omega
        case rel => exact ⟨k + 1, v, da1, ca1, dk1, ck1, by omega, by go_num, rfl, hv, hl1, kt, k7, cw7⟩
       ·have g5 : decide (on < t.stt) = false := decide_eq_false hlo
        have g6 : decide (73048 < on) = false := decide_eq_false hhi
        clear hlo hhi
        have HV2 := Lib.hid (show 0 ≤ exV A on ∧ exV A on ≤ 1000000000000 from (HMV.out v HVV.out on).2.2.2)
        have HM1 := Lib.hid (HMC.out v HVV.out on)
        have hsum : IntKind.i64.wrap (v + (exV A on - v)) = exV A on := by have := HV2.out; have := HVV.out; rw [IntKind.wrap_i64]; omega
        have hsum2 : wrap64 (v + (exV A on - v)) = exV A on := by have := HV2.out; have := HVV.out; unfold wrap64; omega
        generalize exV A on = v2 at *
        go_upto_region 10 with fail
        have hS0 : SB wr wr.drew := (Below.refl _ _).drew
        refine wp_region_held_drew (S := SB wr) (by kernel_rfl) hS0 (fun hS => ?_)
        clear hS0
        refine tk 0 (by decide) ?_ hS (by kernel_rfl) (by kernel_rfl) (by kernel_rfl) (by rfl) (fun _ _ _ h => h) ?_ ?_
        rotate_left
        ·intro W hW
         clear hW
         simp only [z0, z1]
         go_simp
         first | done | with_reducible rfl
        simp only [z0, z1, Act.put, z3, z4, z5]
        refine tk 1 (by decide) ?_ hS (by kernel_rfl) (by kernel_rfl) (by kernel_rfl) (by rfl) (fun _ _ _ h => h) ?_ ?_
        rotate_left
        ·intro W hW
         clear hW
         simp only [z0, z1]
         go_simp
         first | done | with_reducible rfl
        simp only [z0, z1, Act.put, z3, z4, z5]
        refine tk 2 (by decide) ?_ hS (by kernel_rfl) (by kernel_rfl) (by kernel_rfl) (by rfl) (fun _ _ _ h => h) ?_ ?_
        rotate_left
        ·intro W hW
         clear hW
         simp only [z0, z1]
         go_simp
         first | done | with_reducible rfl
        simp only [z0, z1, Act.put, z3, z4, z5]
        refine tk 3 (by decide) ?_ hS (by kernel_rfl) (by kernel_rfl) (by kernel_rfl) (by rfl) (fun _ _ _ h => h) ?_ ?_
        rotate_left
        ·intro W hW
         have q := HCL.out W (bl2 hW cwr)
         clear hW
         simp only [z0, z1]
         go_simp
         first | done | with_reducible rfl
        simp only [z0, z1, Act.put, z3, z4, z5]
        refine tk 4 (by decide) ?_ hS (by kernel_rfl) (by kernel_rfl) (by kernel_rfl) (by rfl) (fun _ _ _ h => h) ?_ ?_
        rotate_left
        ·intro W hW
         clear hW
         simp only [z0, z1]
         go_simp
         first | done | with_reducible rfl
        simp only [z0, z1, Act.put, z3, z4, z5]
        refine tk 5 (by decide) ?_ hS (by kernel_rfl) (by kernel_rfl) (by kernel_rfl) (by rfl) (fun _ _ _ h => h) ?_ ?_
        rotate_left
        ·intro W hW
         have q := (kt.later hW).c3
         clear hW
         simp only [z0, z1]
         go_simp
         first | done | with_reducible rfl
        simp only [z0, z1, Act.put, z3, z4, z5]
        refine tk 6 (by decide) ?_ hS (by kernel_rfl) (by kernel_rfl) (by kernel_rfl) (by rfl) (fun _ _ _ h => h) ?_ ?_
        rotate_left
        ·intro W hW
         clear hW
         simp only [z0, z1]
         go_simp
         first | done | with_reducible rfl
        simp only [z0, z1, Act.put, z3, z4, z5]
        refine tk 7 (by decide) ?_ hS (by kernel_rfl) (by kernel_rfl) (by kernel_rfl) (by rfl) (fun _ _ _ h => h) ?_ ?_
        rotate_left
        ·intro W hW
         clear hW
         simp only [z0, z1]
         go_simp
         first | done | with_reducible rfl
        simp only [z0, z1, Act.put, z3, z4, z5]
        refine tk 8 (by decide) ?_ hS (by kernel_rfl) (by kernel_rfl) (by kernel_rfl) (by rfl) (fun _ _ _ h => h) ?_ ?_
        rotate_left
        ·intro W hW
         clear hW
         simp only [z0, z1]
         go_simp
         first | done | with_reducible rfl
        simp only [z0, z1, Act.put, z3, z4, z5]
        refine tk 9 (by decide) ?_ hS (by kernel_rfl) (by kernel_rfl) (by kernel_rfl) (by rfl) (fun _ _ _ h => h) ?_ ?_
        rotate_left
        ·intro W hW
         clear hW
         simp only [z0, z1]
         go_simp
         first | done | with_reducible rfl
        simp only [z0, z1, Act.put, z3, z4, z5]
        refine tk 10 (by decide) ?_ hS (by kernel_rfl) (by kernel_rfl) (by kernel_rfl) (by rfl) (fun _ _ _ h => h) ?_ ?_
        rotate_left
        ·intro W hW
         clear hW
         simp only [z0, z1]
         go_simp
         first | done | with_reducible rfl
        simp only [z0, z1, Act.put, z3, z4, z5]
        refine tk 11 (by decide) ?_ hS (by kernel_rfl) (by kernel_rfl) (by kernel_rfl) (by rfl) (fun _ _ _ h => h) ?_ ?_
        rotate_left
        ·intro W hW
         have q := HCL.out W (bl2 hW cwr)
         clear hW
         simp only [z0, z1]
         go_simp
         first | done | with_reducible rfl
        simp only [z0, z1, Act.put, z3, z4, z5]
        refine tk 12 (by decide) ?_ hS (by kernel_rfl) (by kernel_rfl) (by kernel_rfl) (by rfl) (fun _ _ _ h => h) ?_ ?_
        rotate_left
        ·intro W hW
         clear hW
         simp only [z0, z1]
         go_simp
         first | done | with_reducible rfl
        simp only [z0, z1, Act.put, z3, z4, z5]
        refine tk 13 (by decide) ?_ hS (by kernel_rfl) (by kernel_rfl) (by kernel_rfl) (by rfl) (fun _ _ _ h => h) ?_ ?_
        rotate_left
        ·intro W hW
         clear hW
         simp only [z0, z1]
         go_simp
         first | done | with_reducible rfl
        simp only [z0, z1, Act.put, z3, z4, z5]
        refine wpAnyH_done (by kernel_rfl) ?_ _
        have cwq := bl2 hS cwr
        replace kt := kt.later hS
        replace k7 := k7.later hS
        replace hl1 := hl1.later hS
        clear hS cwr
        generalize wr.drew = wq at *
        go_upto_region 11 with fail
        have hS0 : SB wq wq.drew := (Below.refl _ _).drew
        refine wp_region_held_drew (S := SB wq) (by kernel_rfl) hS0 (fun hS => ?_)
        clear hS0
        refine take_at 0 (by decide) (by kernel_rfl) (by kernel_rfl) (by kernel_rfl) (fun _ _ _ h => h) hS (yields_load_row (by rfl) 32 (.tmp 7) rfl gq rfl _ _ _ _ (fun W hW => (k7.later hW)) Tryz.underlying32 rfl (by kernel_rfl)) ?_
        simp only [z0, z1, Act.put, z3, z4, z5]
        refine tk 1 (by decide) ?_ hS (by kernel_rfl) (by kernel_rfl) (by kernel_rfl) (by rfl) (fun _ _ _ h => h) ?_ ?_
        rotate_left
        ·intro W hW
         clear hW
         simp only [z0, z1]
         go_simp
         first | done | with_reducible rfl
        simp only [z0, z1, Act.put, z3, z4, z5]
        refine tk 2 (by decide) ?_ hS (by kernel_rfl) (by kernel_rfl) (by kernel_rfl) (by rfl) (fun _ _ _ h => h) ?_ ?_
        rotate_left
        ·intro W hW
         clear hW
         simp only [z0, z1]
         go_simp
         first | done | with_reducible rfl
        simp only [z0, z1, Act.put, z3, z4, z5]
        refine tk 3 (by decide) ?_ hS (by kernel_rfl) (by kernel_rfl) (by kernel_rfl) (by rfl) (fun _ _ _ h => h) ?_ ?_
        rotate_left
        ·intro W hW
         clear hW
         simp only [z0, z1]
         go_simp
         first | done | with_reducible rfl
        simp only [z0, z1, Act.put, z3, z4, z5]
        refine tk 4 (by decide) ?_ hS (by kernel_rfl) (by kernel_rfl) (by kernel_rfl) (by rfl) (fun _ _ _ h => h) ?_ ?_
        rotate_left
        ·intro W hW
         have q := HCL.out W (bl2 hW cwq)
         clear hW
         simp only [z0, z1]
         go_simp
         first | done | with_reducible rfl
        simp only [z0, z1, Act.put, z3, z4, z5]
        refine two_at 5 10 (by decide) (by decide) (by kernel_rfl) (by rfl) (by rfl) (fun K hK => ?_) (fun K hK => ?_)
        ·refine call_wp (by simp only [z0, z1]; go_simp; first | done | rfl | exact ⟨rfl, rfl⟩) ((HM1.out da1 ca1 dk1 ck1 wq.drew (hl1.later (by assumption)) (bl2 (by assumption) cwq)).mono ?_)
         rintro e v7 ⟨da7, dk7, ca7, ck7, rfl, hl7, hf7, hb⟩
         have hT := SB.mono _ _ hS hb
         refine ⟨_, rfl, hK.out _ _ hT (fun hT' => ?_)⟩
         clear hT' hS
         simp only [z0, z1, Act.put, z3, z4, z5]
         refine tk 6 (by decide) ?_ hT (by kernel_rfl) (by kernel_rfl) (by kernel_rfl) (by rfl) (fun _ _ _ h => h) ?_ ?_
         rotate_left
         ·intro W hW
          clear hW
          simp only [z0, z1]
          go_simp
          first | done | with_reducible rfl
         simp only [z0, z1, Act.put, z3, z4, z5]
         refine tk 7 (by decide) ?_ hT (by kernel_rfl) (by kernel_rfl) (by kernel_rfl) (by rfl) (fun _ _ _ h => h) ?_ ?_
         rotate_left
         ·intro W hW
          clear hW
          simp only [z0, z1]
          go_simp
          first | done | with_reducible rfl
         simp only [z0, z1, Act.put, z3, z4, z5]
         refine tk 8 (by decide) ?_ hT (by kernel_rfl) (by kernel_rfl) (by kernel_rfl) (by rfl) (fun _ _ _ h => h) ?_ ?_
         rotate_left
         ·intro W hW
          clear hW
          simp only [z0, z1]
          go_simp
          first | done | with_reducible rfl
         simp only [z0, z1, Act.put, z3, z4, z5]
         refine tk 9 (by decide) ?_ hT (by kernel_rfl) (by kernel_rfl) (by kernel_rfl) (by rfl) (fun _ _ _ h => h) ?_ ?_
         rotate_left
         ·intro W hW
          clear hW
          simp only [z0, z1]
          go_simp
          first | done | with_reducible rfl
         simp only [z0, z1, Act.put, z3, z4, z5]
         refine one_at 10 (by decide) (by kernel_rfl) (by rfl) (fun K hK => ?_)
         refine value_wp (by simp only [z0, z1]; go_simp; first | done | rfl | exact ⟨rfl, rfl⟩) ?_
         have hU : SB wq (v7.alloc (.cells #[.int .i64 0, .int .i64 0, .int .i64 0, .int .i64 0, .int .i64 0, .int .i64 0, .int .i64 0, .int .i64 0, .int .i64 0, .int .i64 0, .int .i64 0, .int .i64 0, .int .i64 0, .int .i64 0, .int .i64 0, .int .i64 0, .int .i64 0, .int .i64 0, .int .i64 0, .int .i64 0, .int .i64 0, .string { data := #[] }, .string { data := #[] }, .slice none 0 0, .slice none 0 0] 32)) := SB.mono _ _ hT ((Below.refl _ _).alloc (Nat.le_refl _) _)
         refine hK.out _ _ hU (fun hU' => ?_)
         clear hU'
         simp only [z0, z1, Act.put, z3, z4, z5]
         refine one_at 11 (by decide) (by kernel_rfl) (by rfl) (fun K hK => ?_)
         simp only [z0, z1]
         refine wp_store_row 32 _ _ rfl v7.heap.size _ rfl rfl _ _ (Bk.Blk.nw10) (by kernel_rfl) rfl (one25 ..) ?_
         have hX : Below v7.heap.size v7 ((v7.alloc (.cells #[.int .i64 0, .int .i64 0, .int .i64 0, .int .i64 0, .int .i64 0, .int .i64 0, .int .i64 0, .int .i64 0, .int .i64 0, .int .i64 0, .int .i64 0, .int .i64 0, .int .i64 0, .int .i64 0, .int .i64 0, .int .i64 0, .int .i64 0, .int .i64 0, .int .i64 0, .int .i64 0, .int .i64 0, .string { data := #[] }, .string { data := #[] }, .slice none 0 0, .slice none 0 0] 32)).setRow v7.heap.size #[.int .i64 (A.prv v2).id, .int .i64 (A.prv v2).ac, .int .i64 (A.prv v2).st, .int .i64 (A.prv v2).pp, .int .i64 (A.prv v2).pi, .int .i64 (A.prv v2).fee, .int .i64 (A.prv v2).pen, .int .i64 (A.prv v2).chg, .int .i64 (A.prv v2).prov, .int .i64 (A.prv v2).loss, .int .i64 (A.prv v2).rcv, .int .i64 ((A.prv v2).tm).me, .int .i64 ((A.prv v2).tm).pr, .int .i64 ((A.prv v2).tm).ppm, .int .i64 ((A.prv v2).tm).stt, .int .i64 ((A.prv v2).tm).ev, .int .i64 ((A.prv v2).tm).ct, .int .i64 ((A.prv v2).tm).ba, .int .i64 ((A.prv v2).tm).mo, .int .i64 ((A.prv v2).tm).pen, .int .i64 ((A.prv v2).tm).fe, .string ((A.prv v2).tm).cal, .string ((A.prv v2).tm).cur, .slice da7 (A.prv v2).ds.length dk7, .slice ca7 (A.prv v2).cs.length ck7]) := Below_setRow ((Below.refl _ _).alloc (Nat.le_refl _) _) (Nat.le_refl _) _
         have hS7 := SB.mono _ _ hT hX
         have hz7 : Bk.Blk ((v7.alloc (.cells #[.int .i64 0, .int .i64 0, .int .i64 0, .int .i64 0, .int .i64 0, .int .i64 0, .int .i64 0, .int .i64 0, .int .i64 0, .int .i64 0, .int .i64 0, .int .i64 0, .int .i64 0, .int .i64 0, .int .i64 0, .int .i64 0, .int .i64 0, .int .i64 0, .int .i64 0, .int .i64 0, .int .i64 0, .string { data := #[] }, .string { data := #[] }, .slice none 0 0, .slice none 0 0] 32)).setRow v7.heap.size #[.int .i64 (A.prv v2).id, .int .i64 (A.prv v2).ac, .int .i64 (A.prv v2).st, .int .i64 (A.prv v2).pp, .int .i64 (A.prv v2).pi, .int .i64 (A.prv v2).fee, .int .i64 (A.prv v2).pen, .int .i64 (A.prv v2).chg, .int .i64 (A.prv v2).prov, .int .i64 (A.prv v2).loss, .int .i64 (A.prv v2).rcv, .int .i64 ((A.prv v2).tm).me, .int .i64 ((A.prv v2).tm).pr, .int .i64 ((A.prv v2).tm).ppm, .int .i64 ((A.prv v2).tm).stt, .int .i64 ((A.prv v2).tm).ev, .int .i64 ((A.prv v2).tm).ct, .int .i64 ((A.prv v2).tm).ba, .int .i64 ((A.prv v2).tm).mo, .int .i64 ((A.prv v2).tm).pen, .int .i64 ((A.prv v2).tm).fe, .string ((A.prv v2).tm).cal, .string ((A.prv v2).tm).cur, .slice da7 (A.prv v2).ds.length dk7, .slice ca7 (A.prv v2).cs.length ck7]) v7.heap.size _ 32 := Blk_setRow_same Bk.Blk.nw10
         refine hK.out _ _ hS7 (fun hU' => ?_)
         clear hU' hU hT hK
         simp only [z0, z1, Act.put, z3, z4, z5]
         replace hl7 := hl7.later hX
         replace hf7 : (∀ ad, da7 = some ad → wq.heap.size ≤ ad.block) ∧ (∀ ad, ca7 = some ad → wq.heap.size ≤ ad.block) := hf7
         have hg7 : wq.heap.size ≤ v7.heap.size := (show wq.drew.heap.size ≤ v7.heap.size from hb.size)
         clear hX hb
         generalize ((v7.alloc (.cells _ 32)).setRow v7.heap.size _) = w7 at *
         generalize v7.heap.size = g7 at *
         refine tk 12 (by decide) ?_ hS7 (by kernel_rfl) (by kernel_rfl) (by kernel_rfl) (by rfl) (fun _ _ _ h => h) ?_ ?_
         rotate_left
         ·intro W hW
          clear hW
          simp only [z0, z1]
          go_simp
          first | done | with_reducible rfl
         simp only [z0, z1, Act.put, z3, z4, z5]
         refine tk 13 (by decide) ?_ hS7 (by kernel_rfl) (by kernel_rfl) (by kernel_rfl) (by rfl) (fun _ _ _ h => h) ?_ ?_
         rotate_left
         ·intro W hW
          clear hW
          simp only [z0, z1]
          go_simp
          first | done | with_reducible rfl
         simp only [z0, z1, Act.put, z3, z4, z5]
         refine wpAnyH_done (by kernel_rfl) ?_ _
         have c7 := bl2 hS7 cwq
         have hgr := k7.lt
         replace kt := kt.later hS7
         replace k7 := k7.later hS7
         have hne7 : (∀ ad, da7 = some ad → ad.block ≠ gq) ∧ (∀ ad, ca7 = some ad → ad.block ≠ gq) := ⟨fun ad had => by have := hf7.1 ad had; omega, fun ad had => by have := hf7.2 ad had; omega⟩
         clear hl1 hS7 cwq hgr hf7 HM1
         go_wp2_with (first | (refine wpList_load_row rfl 32 _ rfl _ rfl _ _ _ _ (hz7) Tryz.underlying32 rfl (by kernel_rfl) ?_) | (refine wpList_store_row rfl 32 _ _ rfl _ _ rfl rfl _ _ k7 (by kernel_rfl) rfl (one25 ..) ?_))
         go_roundg (gk - 1)
         case measure => omega
         case rel => exact ⟨k + 1, v2, da7, ca7, dk7, ck7, by omega, by go_num, by first | rfl | (rw [hsum]) | (simp [hsum]) | (simp [hsum2]), HV2.out, rows_set hl7 hne7, Blk_setRow_ne kt (by omega), Blk_setRow_same k7, Below_setRow c7 (by omega) _⟩
        ·refine value_wp (by simp only [z0, z1]; go_simp; first | done | rfl | exact ⟨rfl, rfl⟩) ?_
         have hT : SB wq ((wq.alloc (.cells #[.int .i64 0, .int .i64 0, .int .i64 0, .int .i64 0, .int .i64 0, .int .i64 0, .int .i64 0, .int .i64 0, .int .i64 0, .int .i64 0, .int .i64 0, .int .i64 0, .int .i64 0, .int .i64 0, .int .i64 0, .int .i64 0, .int .i64 0, .int .i64 0, .int .i64 0, .int .i64 0, .int .i64 0, .string { data := #[] }, .string { data := #[] }, .slice none 0 0, .slice none 0 0] 32)).drew) := ((Below.refl _ _).alloc (Nat.le_refl _) _).drew
         have hN : Bk.Blk ((wq.alloc (.cells #[.int .i64 0, .int .i64 0, .int .i64 0, .int .i64 0, .int .i64 0, .int .i64 0, .int .i64 0, .int .i64 0, .int .i64 0, .int .i64 0, .int .i64 0, .int .i64 0, .int .i64 0, .int .i64 0, .int .i64 0, .int .i64 0, .int .i64 0, .int .i64 0, .int .i64 0, .int .i64 0, .int .i64 0, .string { data := #[] }, .string { data := #[] }, .slice none 0 0, .slice none 0 0] 32)).drew) wq.heap.size _ 32 := Bk.Blk.drew Bk.Blk.nw10
         have hg7 : wq.heap.size ≤ wq.heap.size := Nat.le_refl _
         refine hK.out _ _ hT (fun hT' => ?_)
         clear hT' hK hS
         simp only [z0, z1, Act.put, z3, z4, z5]
         have hlt := hN.lt
         have hge := Below.size hT
         generalize ((wq.alloc (.cells _ 32)).drew) = u7 at *
         obtain ⟨g7, eg7⟩ : ∃ g, g = wq.heap.size := ⟨_, rfl⟩
         rw [← eg7] at hN hlt
         replace hg7 : wq.heap.size ≤ g7 := by omega
         rw [← eg7]
         clear eg7
         refine one_at 5 (by decide) (by kernel_rfl) (by rfl) (fun K hK => ?_)
         refine call_wp (by simp only [z0, z1]; go_simp; first | done | rfl | exact ⟨rfl, rfl⟩) ((HM1.out da1 ca1 dk1 ck1 u7 (hl1.later (by assumption)) (bl2 (by assumption) cwq)).mono ?_)
         rintro e v7 ⟨da7, dk7, ca7, ck7, rfl, hl7, hf7, hb⟩
         have hU := SB.mono _ _ hT hb
         replace hN := hN.later hb
         refine ⟨_, rfl, hK.out _ _ hU (fun hU' => ?_)⟩
         clear hU' hT hK
         simp only [z0, z1, Act.put, z3, z4, z5]
         refine tk 6 (by decide) ?_ hU (by kernel_rfl) (by kernel_rfl) (by kernel_rfl) (by rfl) (fun _ _ _ h => h) ?_ ?_
         rotate_left
         ·intro W hW
          clear hW
          simp only [z0, z1]
          go_simp
          first | done | with_reducible rfl
         simp only [z0, z1, Act.put, z3, z4, z5]
         refine tk 7 (by decide) ?_ hU (by kernel_rfl) (by kernel_rfl) (by kernel_rfl) (by rfl) (fun _ _ _ h => h) ?_ ?_
         rotate_left
         ·intro W hW
          clear hW
          simp only [z0, z1]
          go_simp
          first | done | with_reducible rfl
         simp only [z0, z1, Act.put, z3, z4, z5]
         refine tk 8 (by decide) ?_ hU (by kernel_rfl) (by kernel_rfl) (by kernel_rfl) (by rfl) (fun _ _ _ h => h) ?_ ?_
         rotate_left
         ·intro W hW
          clear hW
          simp only [z0, z1]
          go_simp
          first | done | with_reducible rfl
         simp only [z0, z1, Act.put, z3, z4, z5]
         refine tk 9 (by decide) ?_ hU (by kernel_rfl) (by kernel_rfl) (by kernel_rfl) (by rfl) (fun _ _ _ h => h) ?_ ?_
         rotate_left
         ·intro W hW
          clear hW
          simp only [z0, z1]
          go_simp
          first | done | with_reducible rfl
         simp only [z0, z1, Act.put, z3, z4, z5]
         refine one_at 11 (by decide) (by kernel_rfl) (by rfl) (fun K hK => ?_)
         simp only [z0, z1]
         refine wp_store_row 32 _ _ rfl g7 _ rfl rfl _ _ (hN) (by kernel_rfl) rfl (one25 ..) ?_
         have hS7 : SB wq (v7.setRow g7 #[.int .i64 (A.prv v2).id, .int .i64 (A.prv v2).ac, .int .i64 (A.prv v2).st, .int .i64 (A.prv v2).pp, .int .i64 (A.prv v2).pi, .int .i64 (A.prv v2).fee, .int .i64 (A.prv v2).pen, .int .i64 (A.prv v2).chg, .int .i64 (A.prv v2).prov, .int .i64 (A.prv v2).loss, .int .i64 (A.prv v2).rcv, .int .i64 ((A.prv v2).tm).me, .int .i64 ((A.prv v2).tm).pr, .int .i64 ((A.prv v2).tm).ppm, .int .i64 ((A.prv v2).tm).stt, .int .i64 ((A.prv v2).tm).ev, .int .i64 ((A.prv v2).tm).ct, .int .i64 ((A.prv v2).tm).ba, .int .i64 ((A.prv v2).tm).mo, .int .i64 ((A.prv v2).tm).pen, .int .i64 ((A.prv v2).tm).fe, .string ((A.prv v2).tm).cal, .string ((A.prv v2).tm).cur, .slice da7 (A.prv v2).ds.length dk7, .slice ca7 (A.prv v2).cs.length ck7]) := Below_setRow hU hg7 _
         have hz7 : Bk.Blk (v7.setRow g7 #[.int .i64 (A.prv v2).id, .int .i64 (A.prv v2).ac, .int .i64 (A.prv v2).st, .int .i64 (A.prv v2).pp, .int .i64 (A.prv v2).pi, .int .i64 (A.prv v2).fee, .int .i64 (A.prv v2).pen, .int .i64 (A.prv v2).chg, .int .i64 (A.prv v2).prov, .int .i64 (A.prv v2).loss, .int .i64 (A.prv v2).rcv, .int .i64 ((A.prv v2).tm).me, .int .i64 ((A.prv v2).tm).pr, .int .i64 ((A.prv v2).tm).ppm, .int .i64 ((A.prv v2).tm).stt, .int .i64 ((A.prv v2).tm).ev, .int .i64 ((A.prv v2).tm).ct, .int .i64 ((A.prv v2).tm).ba, .int .i64 ((A.prv v2).tm).mo, .int .i64 ((A.prv v2).tm).pen, .int .i64 ((A.prv v2).tm).fe, .string ((A.prv v2).tm).cal, .string ((A.prv v2).tm).cur, .slice da7 (A.prv v2).ds.length dk7, .slice ca7 (A.prv v2).cs.length ck7]) g7 _ 32 := Blk_setRow_same hN
         refine hK.out _ _ hS7 (fun hU' => ?_)
         clear hU' hU hK
         simp only [z0, z1, Act.put, z3, z4, z5]
         replace hl7 : LoIn' (v7.setRow g7 #[.int .i64 (A.prv v2).id, .int .i64 (A.prv v2).ac, .int .i64 (A.prv v2).st, .int .i64 (A.prv v2).pp, .int .i64 (A.prv v2).pi, .int .i64 (A.prv v2).fee, .int .i64 (A.prv v2).pen, .int .i64 (A.prv v2).chg, .int .i64 (A.prv v2).prov, .int .i64 (A.prv v2).loss, .int .i64 (A.prv v2).rcv, .int .i64 ((A.prv v2).tm).me, .int .i64 ((A.prv v2).tm).pr, .int .i64 ((A.prv v2).tm).ppm, .int .i64 ((A.prv v2).tm).stt, .int .i64 ((A.prv v2).tm).ev, .int .i64 ((A.prv v2).tm).ct, .int .i64 ((A.prv v2).tm).ba, .int .i64 ((A.prv v2).tm).mo, .int .i64 ((A.prv v2).tm).pen, .int .i64 ((A.prv v2).tm).fe, .string ((A.prv v2).tm).cal, .string ((A.prv v2).tm).cur, .slice da7 (A.prv v2).ds.length dk7, .slice ca7 (A.prv v2).cs.length ck7]) _ da7 ca7 := ⟨hl7.d.blk (fun ad had => setRow_other _ _ _ _ (fun he => by have := hf7.1 ad had; omega)), hl7.c.blk (fun ad had => setRow_other _ _ _ _ (fun he => by have := hf7.2 ad had; omega))⟩
         replace hf7 : (∀ ad, da7 = some ad → wq.heap.size ≤ ad.block) ∧ (∀ ad, ca7 = some ad → wq.heap.size ≤ ad.block) := ⟨fun ad had => by have := hf7.1 ad had; omega, fun ad had => by have := hf7.2 ad had; omega⟩
         clear hge hlt hb hN
         generalize (v7.setRow g7 #[.int .i64 (A.prv v2).id, .int .i64 (A.prv v2).ac, .int .i64 (A.prv v2).st, .int .i64 (A.prv v2).pp, .int .i64 (A.prv v2).pi, .int .i64 (A.prv v2).fee, .int .i64 (A.prv v2).pen, .int .i64 (A.prv v2).chg, .int .i64 (A.prv v2).prov, .int .i64 (A.prv v2).loss, .int .i64 (A.prv v2).rcv, .int .i64 ((A.prv v2).tm).me, .int .i64 ((A.prv v2).tm).pr, .int .i64 ((A.prv v2).tm).ppm, .int .i64 ((A.prv v2).tm).stt, .int .i64 ((A.prv v2).tm).ev, .int .i64 ((A.prv v2).tm).ct, .int .i64 ((A.prv v2).tm).ba, .int .i64 ((A.prv v2).tm).mo, .int .i64 ((A.prv v2).tm).pen, .int .i64 ((A.prv v2).tm).fe, .string ((A.prv v2).tm).cal, .string ((A.prv v2).tm).cur, .slice da7 (A.prv v2).ds.length dk7, .slice ca7 (A.prv v2).cs.length ck7]) = w7 at *
         refine tk 12 (by decide) ?_ hS7 (by kernel_rfl) (by kernel_rfl) (by kernel_rfl) (by rfl) (fun _ _ _ h => h) ?_ ?_
         rotate_left
         ·intro W hW
          clear hW
          simp only [z0, z1]
          go_simp
          first | done | with_reducible rfl
         simp only [z0, z1, Act.put, z3, z4, z5]
         refine tk 13 (by decide) ?_ hS7 (by kernel_rfl) (by kernel_rfl) (by kernel_rfl) (by rfl) (fun _ _ _ h => h) ?_ ?_
         rotate_left
         ·intro W hW
          clear hW
          simp only [z0, z1]
          go_simp
          first | done | with_reducible rfl
         simp only [z0, z1, Act.put, z3, z4, z5]
         refine wpAnyH_done (by kernel_rfl) ?_ _
         have c7 := bl2 hS7 cwq
         have hgr := k7.lt
         replace kt := kt.later hS7
         replace k7 := k7.later hS7
         have hne7 : (∀ ad, da7 = some ad → ad.block ≠ gq) ∧ (∀ ad, ca7 = some ad → ad.block ≠ gq) := ⟨fun ad had => by have := hf7.1 ad had; omega, fun ad had => by have := hf7.2 ad had; omega⟩
         clear hl1 hS7 cwq hgr hf7 HM1
         go_wp2_with (first | (refine wpList_load_row rfl 32 _ rfl _ rfl _ _ _ _ (hz7) Tryz.underlying32 rfl (by kernel_rfl) ?_) | (refine wpList_store_row rfl 32 _ _ rfl _ _ rfl rfl _ _ k7 (by kernel_rfl) rfl (one25 ..) ?_))
         go_roundg (gk - 1)
         case measure => omega
         case rel => exact ⟨k + 1, v2, da7, ca7, dk7, ck7, by omega, by go_num, by first | rfl | (rw [hsum]) | (simp [hsum]) | (simp [hsum2]), HV2.out, rows_set hl7 hne7, Blk_setRow_ne kt (by omega), Blk_setRow_same k7, Below_setRow c7 (by omega) _⟩
     ·have g4 : decide ((k : Int) < (ds.length : Int)) = false := decide_eq_false (by omega)
      have l3 := kt.c3
      go_upto_region 16 with fail
      clear l3
      generalize (min (wrap64 (t.stt + 4000)) 73048) = day at *
      have HW := Lib.hid (tl_write HK.out.2.1 HK.out.2.2.1 HVV.out)
      have l8 : wr.cell? ⟨gq, 8, none⟩ = some (.int .i64 v) := k7.c8
      by_cases hb4 : bkt (daysL (A.prv v) day) = 4
      ·have HWR := Lib.hid (fun (W : World) (hl : LoIn' W (A.prv v) da1 ca1) (hW : Below w.heap.size w W) => write_ok (A.prv v) da1 ca1 dk1 ck1 day W ⟨hl.d, hl.c⟩ HN.out.1 HN.out.2 (HT.out W hW).2.1 HK.out.2.2.2.2.1 hb4)
       have HSU : Hid (wrap64 (v + wrN (A.prv v)) = t.pr) := Lib.hid (by rw [HW.out.2.2]; have := HK.out.2.2.1; unfold wrap64; omega)
       obtain ⟨N, hN⟩ : ∃ N, N = wrN (A.prv v) := ⟨_, rfl⟩
       obtain ⟨O, hO⟩ : ∃ O, O = wrO (A.prv v) := ⟨_, rfl⟩
       have HOO : Hid (O.prov = 0 ∧ O.loss = t.pr) := Lib.hid (by rw [hO]; exact ⟨HW.out.1, HW.out.2.1⟩)
       rw [← hN, ← hO] at HWR
       rw [← hN] at HSU
       clear hN hO hb4 HW l8
       unfold WrP at HWR
       go_wp2_with (refine wpList_load_row rfl 32 _ rfl _ rfl _ _ _ _ (k7) Tryz.underlying32 rfl (by kernel_rfl) ?_)
       refine (HWR.out _ hl1 cwr).mono ?_
       rintro e w5 ⟨da2, dk2, ca2, ck2, rfl, _, hb⟩
       have cw5 := bl2 hb cwr
       replace kt := kt.later hb
       replace k7 := k7.later hb
       clear hb cwr hl1
       go_upto_region 17 with (refine wpList_store_row rfl 32 _ _ rfl _ _ rfl rfl _ _ Bk.Blk.nw10 (by kernel_rfl) rfl (one25 ..) ?_)
       have hbs : Below w5.heap.size w5 ((w5.alloc (.cells #[.int .i64 0, .int .i64 0, .int .i64 0, .int .i64 0, .int .i64 0, .int .i64 0, .int .i64 0, .int .i64 0, .int .i64 0, .int .i64 0, .int .i64 0, .int .i64 0, .int .i64 0, .int .i64 0, .int .i64 0, .int .i64 0, .int .i64 0, .int .i64 0, .int .i64 0, .int .i64 0, .int .i64 0, .string { data := #[] }, .string { data := #[] }, .slice none 0 0, .slice none 0 0] 32)).setRow w5.heap.size #[.int .i64 (O).id, .int .i64 (O).ac, .int .i64 (O).st, .int .i64 (O).pp, .int .i64 (O).pi, .int .i64 (O).fee, .int .i64 (O).pen, .int .i64 (O).chg, .int .i64 (O).prov, .int .i64 (O).loss, .int .i64 (O).rcv, .int .i64 ((O).tm).me, .int .i64 ((O).tm).pr, .int .i64 ((O).tm).ppm, .int .i64 ((O).tm).stt, .int .i64 ((O).tm).ev, .int .i64 ((O).tm).ct, .int .i64 ((O).tm).ba, .int .i64 ((O).tm).mo, .int .i64 ((O).tm).pen, .int .i64 ((O).tm).fe, .string ((O).tm).cal, .string ((O).tm).cur, .slice da2 (O).ds.length dk2, .slice ca2 (O).cs.length ck2]) := Below_setRow ((Below.refl _ _).alloc (Nat.le_refl _) _) (Nat.le_refl _) _
       have k15 : Bk.Blk ((w5.alloc (.cells #[.int .i64 0, .int .i64 0, .int .i64 0, .int .i64 0, .int .i64 0, .int .i64 0, .int .i64 0, .int .i64 0, .int .i64 0, .int .i64 0, .int .i64 0, .int .i64 0, .int .i64 0, .int .i64 0, .int .i64 0, .int .i64 0, .int .i64 0, .int .i64 0, .int .i64 0, .int .i64 0, .int .i64 0, .string { data := #[] }, .string { data := #[] }, .slice none 0 0, .slice none 0 0] 32)).setRow w5.heap.size #[.int .i64 (O).id, .int .i64 (O).ac, .int .i64 (O).st, .int .i64 (O).pp, .int .i64 (O).pi, .int .i64 (O).fee, .int .i64 (O).pen, .int .i64 (O).chg, .int .i64 (O).prov, .int .i64 (O).loss, .int .i64 (O).rcv, .int .i64 ((O).tm).me, .int .i64 ((O).tm).pr, .int .i64 ((O).tm).ppm, .int .i64 ((O).tm).stt, .int .i64 ((O).tm).ev, .int .i64 ((O).tm).ct, .int .i64 ((O).tm).ba, .int .i64 ((O).tm).mo, .int .i64 ((O).tm).pen, .int .i64 ((O).tm).fe, .string ((O).tm).cal, .string ((O).tm).cur, .slice da2 (O).ds.length dk2, .slice ca2 (O).cs.length ck2]) w5.heap.size _ 32 := Blk_setRow_same Bk.Blk.nw10
       have cw6 := bl2 hbs cw5
       replace kt := kt.later hbs
       replace k7 := k7.later hbs
       clear hbs cw5
       generalize ((w5.alloc (.cells _ 32)).setRow w5.heap.size _) = w6 at *
       generalize w5.heap.size = g15 at *
       have l8 : w6.cell? ⟨gq, 8, none⟩ = some (.int .i64 v) := k7.c8
       have m8 : w6.cell? ⟨g15, 8, none⟩ = some (.int .i64 0) := by rw [← HOO.out.1]; exact k15.c8
       have m9 : w6.cell? ⟨g15, 9, none⟩ = some (.int .i64 t.pr) := by rw [← HOO.out.2]; exact k15.c9
       have l1 := kt.c1
       have hs1 : wrap64 (v + N) = t.pr := HSU.out
       have hs2 : IntKind.i64.wrap (v + N) = t.pr := by have h := hs1; unfold wrap64 at h; rw [IntKind.wrap_i64]; exact h
       go_wp2_with fail
       refine (HLO.out _ cw6).mono ?_
       rintro e wy ⟨rfl, hb⟩
       have cy := bl2 hb cw6
       go_wp2_with fail
       go_ret
       exact ⟨rfl, cy⟩
      ·have HWR := Lib.hid (fun (W : World) (hl : LoIn' W (A.prv v) da1 ca1) (hW : Below w.heap.size w W) => write_no (A.prv v) da1 ca1 dk1 ck1 day W ⟨hl.d, hl.c⟩ HN.out.1 HN.out.2 (HT.out W hW).2.1 (fun hh => hb4 hh.2))
       unfold WrP at HWR
       clear hb4 HW l8
       obtain ⟨O, hO⟩ : ∃ O, O = zLo := ⟨_, rfl⟩
       rw [← hO] at HWR
       clear hO
       go_wp2_with (refine wpList_load_row rfl 32 _ rfl _ rfl _ _ _ _ (k7) Tryz.underlying32 rfl (by kernel_rfl) ?_)
       refine (HWR.out _ hl1 cwr).mono ?_
       rintro e w5 ⟨da2, dk2, ca2, ck2, rfl, _, hb⟩
       have cw5 := bl2 hb cwr
       replace kt := kt.later hb
       replace k7 := k7.later hb
       clear hb cwr hl1
       go_upto_region 17 with (refine wpList_store_row rfl 32 _ _ rfl _ _ rfl rfl _ _ Bk.Blk.nw10 (by kernel_rfl) rfl (one25 ..) ?_)
       have hbs : Below w5.heap.size w5 ((w5.alloc (.cells #[.int .i64 0, .int .i64 0, .int .i64 0, .int .i64 0, .int .i64 0, .int .i64 0, .int .i64 0, .int .i64 0, .int .i64 0, .int .i64 0, .int .i64 0, .int .i64 0, .int .i64 0, .int .i64 0, .int .i64 0, .int .i64 0, .int .i64 0, .int .i64 0, .int .i64 0, .int .i64 0, .int .i64 0, .string { data := #[] }, .string { data := #[] }, .slice none 0 0, .slice none 0 0] 32)).setRow w5.heap.size #[.int .i64 (O).id, .int .i64 (O).ac, .int .i64 (O).st, .int .i64 (O).pp, .int .i64 (O).pi, .int .i64 (O).fee, .int .i64 (O).pen, .int .i64 (O).chg, .int .i64 (O).prov, .int .i64 (O).loss, .int .i64 (O).rcv, .int .i64 ((O).tm).me, .int .i64 ((O).tm).pr, .int .i64 ((O).tm).ppm, .int .i64 ((O).tm).stt, .int .i64 ((O).tm).ev, .int .i64 ((O).tm).ct, .int .i64 ((O).tm).ba, .int .i64 ((O).tm).mo, .int .i64 ((O).tm).pen, .int .i64 ((O).tm).fe, .string ((O).tm).cal, .string ((O).tm).cur, .slice da2 (O).ds.length dk2, .slice ca2 (O).cs.length ck2]) := Below_setRow ((Below.refl _ _).alloc (Nat.le_refl _) _) (Nat.le_refl _) _
       have k15 : Bk.Blk ((w5.alloc (.cells #[.int .i64 0, .int .i64 0, .int .i64 0, .int .i64 0, .int .i64 0, .int .i64 0, .int .i64 0, .int .i64 0, .int .i64 0, .int .i64 0, .int .i64 0, .int .i64 0, .int .i64 0, .int .i64 0, .int .i64 0, .int .i64 0, .int .i64 0, .int .i64 0, .int .i64 0, .int .i64 0, .int .i64 0, .string { data := #[] }, .string { data := #[] }, .slice none 0 0, .slice none 0 0] 32)).setRow w5.heap.size #[.int .i64 (O).id, .int .i64 (O).ac, .int .i64 (O).st, .int .i64 (O).pp, .int .i64 (O).pi, .int .i64 (O).fee, .int .i64 (O).pen, .int .i64 (O).chg, .int .i64 (O).prov, .int .i64 (O).loss, .int .i64 (O).rcv, .int .i64 ((O).tm).me, .int .i64 ((O).tm).pr, .int .i64 ((O).tm).ppm, .int .i64 ((O).tm).stt, .int .i64 ((O).tm).ev, .int .i64 ((O).tm).ct, .int .i64 ((O).tm).ba, .int .i64 ((O).tm).mo, .int .i64 ((O).tm).pen, .int .i64 ((O).tm).fe, .string ((O).tm).cal, .string ((O).tm).cur, .slice da2 (O).ds.length dk2, .slice ca2 (O).cs.length ck2]) w5.heap.size _ 32 := Blk_setRow_same Bk.Blk.nw10
       have cw6 := bl2 hbs cw5
       replace kt := kt.later hbs
       replace k7 := k7.later hbs
       clear hbs cw5
       generalize ((w5.alloc (.cells _ 32)).setRow w5.heap.size _) = w6 at *
       generalize w5.heap.size = g15 at *
       have l8 : w6.cell? ⟨gq, 8, none⟩ = some (.int .i64 v) := k7.c8
       go_wp2_with fail
       refine (HLO.out _ cw6).mono ?_
       rintro e wy ⟨rfl, hb⟩
       have cy := bl2 hb cw6
       go_wp2_with fail
       go_ret
       exact ⟨rfl, cy⟩
   ·have g1 : (E != 0) = true := bne_iff_ne.2 hE
    clear hE
    go_wp2_with fail
    refine (HLO.out _ cw4).mono ?_
    rintro e wy ⟨rfl, hb⟩
    have cy := bl2 hb cw4
    go_wp2_with fail
    go_ret
    exact ⟨rfl, cy⟩
end Go.Proofs.YtlolflephnbbcaaGreatDoor.Ln
