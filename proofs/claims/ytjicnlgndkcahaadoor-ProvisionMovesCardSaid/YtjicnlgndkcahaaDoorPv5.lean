/-
  Lists of loans; Total of package provision and of the reference.
-/
import Derived.Test.YtjicnlgndkcahaaDoorPv4
namespace Go.Proofs.YtjicnlgndkcahaaDoor.Ln
open Go.RowKit
open Go.Proofs.YtjicnlgndkcahaaDoor

/-- A loan with the addresses of its rows. -/
structure LoS where
  (l : Lo) (da ca : Option Addr) (dk ck : Nat)
instance : Inhabited LoS := ⟨⟨zLo', none, none, 0, 0⟩⟩
def lenc (x : LoS) : List Value := [.int .i64 (x.l).id, .int .i64 (x.l).ac, .int .i64 (x.l).st, .int .i64 (x.l).pp, .int .i64 (x.l).pi, .int .i64 (x.l).fee, .int .i64 (x.l).pen, .int .i64 (x.l).chg, .int .i64 (x.l).prov, .int .i64 (x.l).loss, .int .i64 (x.l).rcv, .int .i64 ((x.l).tm).me, .int .i64 ((x.l).tm).pr, .int .i64 ((x.l).tm).ppm, .int .i64 ((x.l).tm).stt, .int .i64 ((x.l).tm).ev, .int .i64 ((x.l).tm).ct, .int .i64 ((x.l).tm).ba, .int .i64 ((x.l).tm).mo, .int .i64 ((x.l).tm).pen, .int .i64 ((x.l).tm).fe, .string ((x.l).tm).cal, .string ((x.l).tm).cur, .slice x.da (x.l).ds.length x.dk, .slice x.ca (x.l).cs.length x.ck]
theorem lenc_len (x : LoS) : (lenc x).length = 25 := rfl
theorem lenc_all (x : LoS) : (lenc x).toArray.all (·.oneCell') = true := one25 ..
/-- A list of loans in memory. -/
structure LosIn (W : World) (a : Option Addr) (xs : List LoS) : Prop where
  row : RowIn lenc W a xs
  each : ∀ x ∈ xs, LoIn' W x.l x.da x.ca
  lens : ∀ x ∈ xs, x.l.ds.length ≤ 2305843009213693951
theorem LosIn.later {W W' : World} {a : Option Addr} {xs : List LoS} (h : LosIn W a xs) (hb : Below W.heap.size W W') : LosIn W' a xs := ⟨h.row.later hb, fun x hx => (h.each x hx).later hb, h.lens⟩
/-- The sum of provisions: from here on. -/
noncomputable def totGo (on : Int) : List LoS → Int → Int × Int
  | [], s => if Rd.gd s then (s, 0) else (0, 6)
  | x :: xs, s => if exE x.l on = 0 then totGo on xs (s + exV x.l on) else (0, exE x.l on)
theorem tot_step {on s : Int} {xs : List LoS} {k : Nat} (h : k < xs.length) : totGo on (xs.drop k) s = if exE xs[k]!.l on = 0 then totGo on (xs.drop (k + 1)) (s + exV xs[k]!.l on) else (0, exE xs[k]!.l on) := by
  rw [List.drop_eq_getElem_cons h, getElem!_pos xs k h]
  rfl
theorem tot_end {on s : Int} {xs : List LoS} {k : Nat} (h : ¬k < xs.length) : totGo on (xs.drop k) s = if Rd.gd s then (s, 0) else (0, 6) := by
  rw [List.drop_eq_nil_of_le (by omega)]
  rfl
theorem ex_bd {l : Lo} {on : Int} (h : exE l on = 0) : -1000000000000 ≤ exV l on ∧ exV l on ≤ 1000000000000 := by
  have hr := rte_bd (stgL l on)
  unfold exE Rd.pcE at h
  unfold exV Rd.pcV
  generalize wrap64 (P l.ds - l.pp) = a at *
  generalize rteS (stgL l on) = p at *
  by_cases hg : Rd.gd a ∧ 0 ≤ p ∧ p ≤ 1000000
  · rw [if_pos hg] at h ⊢
    obtain ⟨_, hv, _⟩ := Rd.rdE_0 h
    rw [hv]
    have hn := Rd.rd_near (x := a * p) (n := 1000000) (mode := 2) (by omega)
    have h1 : a * p ≤ 1000000000000 * 450000 := by
      have := Int.mul_le_mul_of_nonneg_right (hg.1.2) hr.1
      have := Int.mul_le_mul_of_nonneg_left hr.2 (show (0 : Int) ≤ 1000000000000 by omega)
      omega
    have h2 : -(1000000000000 * 450000) ≤ a * p := by
      have := Int.mul_le_mul_of_nonneg_right (hg.1.1) hr.1
      have := Int.mul_le_mul_of_nonneg_left hr.2 (show (0 : Int) ≤ 1000000000000 by omega)
      rw [Int.neg_mul] at *
      omega
    generalize a * p = x at *
    generalize Rd.rd x 1000000 2 = r at *
    omega
  · rw [if_neg hg] at h
    omega
/-- Where the loop of Total stands. -/
def toR (w : World) (xs : List LoS) (on : Int) (g : Nat) (s6 s7 s14 : Value) (W : World) : Prop := ∃ (k : Nat) (s : Int), k + g = xs.length ∧ s14 = .int .i64 k ∧ s6 = .int .i64 s ∧ s7 = .bool false ∧ (-(k * 1000000000000 : Int) ≤ s ∧ s ≤ k * 1000000000000) ∧ totGo on (xs.drop k) s = totGo on xs 0 ∧ Below w.heap.size w W
def rtoR (w : World) (xs : List LoS) (on : Int) (g : Nat) (s6 s7 : Value) (W : World) : Prop := ∃ (k : Nat) (s : Int), k + g = xs.length ∧ s7 = .int .i64 k ∧ s6 = .int .i64 s ∧ (-(k * 1000000000000 : Int) ≤ s ∧ s ≤ k * 1000000000000) ∧ totGo on (xs.drop k) s = totGo on xs 0 ∧ Below w.heap.size w W

set_option maxRecDepth 100000 in
set_option maxHeartbeats 8000000 in
theorem total_any (a : Option Addr) (cap : Nat) (xs : List LoS) (on : Int) (w : World) (h : LosIn w a xs) (hn : xs.length ≤ 100000) (hC : Ctb w) (hSt : Rd.Stp w) :
    Calls Tryd.prog 20 #[.slice a xs.length cap, .int .i64 on] w fun e w' => e = .returned (.tuple #[.int .i64 (totGo on xs 0).1, .int .i64 (totGo on xs 0).2]) ∧ Below w.heap.size w w' := by
  have HX := Lib.hid (fun (x : LoS) (hx : x ∈ xs) (W : World) (hW : Below w.heap.size w W) => expd_any x.l x.da x.ca x.dk x.ck on W (dues_of_row (h.lens x hx) ((h.each x hx).later hW).d) (hC.of hW) (hSt.of hW))
  have H := Lib.hid h
  clear h hC hSt
  go_enter Tryd.func20, Tryd.ntmps20
  go_wp2_with fail
  go_loopg [6, 7, 14] xs.length (toR w xs on)
  case atStart => exact ⟨0, 0, by omega, rfl, rfl, rfl, by omega, rfl, Below.refl _ _⟩
  case round =>
    obtain ⟨k, s, hk, rfl, rfl, rfl, hb, hgo, hbr⟩ := hrel
    have HGO := Lib.hid hgo
    clear hgo
    by_cases hlt : k < xs.length
    · obtain ⟨b, off, rfl, hc⟩ := (H.out.row.later hbr).mid lenc_len (by omega)
      have hx := hc k hlt
      have hm : xs[k]! ∈ xs := by rw [getElem!_pos xs k hlt]; exact List.getElem_mem hlt
      have hs := HGO.out
      rw [tot_step hlt] at hs
      have HS := Lib.hid hs
      have HXX := Lib.hid (HX.out xs[k]! hm)
      have HEB := Lib.hid (fun (h : exE xs[k]!.l on = 0) => ex_bd h)
      clear hc hs hm
      generalize xs[k]! = x at *
      generalize exE x.l on = xe at *
      generalize exV x.l on = xv at *
      go_upto_region 5 with (first | (refine wpList_load_mid rfl 27 _ rfl b (off + k * 25) (by rfl) (lenc x) _ hx Tryd.underlying27 rfl (by kernel_rfl) ?_) | (refine wpList_store_row rfl 27 _ _ rfl _ _ rfl rfl _ _ Bk.Blk.nw10 (by kernel_rfl) rfl (lenc_all x) ?_))
      have hbs : Below wr.heap.size wr ((wr.alloc (.cells #[.int .i64 0, .int .i64 0, .int .i64 0, .int .i64 0, .int .i64 0, .int .i64 0, .int .i64 0, .int .i64 0, .int .i64 0, .int .i64 0, .int .i64 0, .int .i64 0, .int .i64 0, .int .i64 0, .int .i64 0, .int .i64 0, .int .i64 0, .int .i64 0, .int .i64 0, .int .i64 0, .int .i64 0, .string { data := #[] }, .string { data := #[] }, .slice none 0 0, .slice none 0 0] 27)).setRow wr.heap.size (lenc x).toArray) := Below_setRow ((Below.refl _ _).alloc (Nat.le_refl _) _) (Nat.le_refl _) _
      have kx : Bk.Blk ((wr.alloc (.cells #[.int .i64 0, .int .i64 0, .int .i64 0, .int .i64 0, .int .i64 0, .int .i64 0, .int .i64 0, .int .i64 0, .int .i64 0, .int .i64 0, .int .i64 0, .int .i64 0, .int .i64 0, .int .i64 0, .int .i64 0, .int .i64 0, .int .i64 0, .int .i64 0, .int .i64 0, .int .i64 0, .int .i64 0, .string { data := #[] }, .string { data := #[] }, .slice none 0 0, .slice none 0 0] 27)).setRow wr.heap.size (lenc x).toArray) wr.heap.size (lenc x).toArray 27 := Blk_setRow_same Bk.Blk.nw10
      have b1 := bl2 hbs hbr
      clear hbs hx hbr
      generalize ((wr.alloc (.cells #[.int .i64 0, .int .i64 0, .int .i64 0, .int .i64 0, .int .i64 0, .int .i64 0, .int .i64 0, .int .i64 0, .int .i64 0, .int .i64 0, .int .i64 0, .int .i64 0, .int .i64 0, .int .i64 0, .int .i64 0, .int .i64 0, .int .i64 0, .int .i64 0, .int .i64 0, .int .i64 0, .int .i64 0, .string { data := #[] }, .string { data := #[] }, .slice none 0 0, .slice none 0 0] 27)).setRow wr.heap.size (lenc x).toArray) = w1 at *
      go_wp2_with (refine wpList_load_row rfl 27 _ rfl _ rfl _ _ _ _ (kx) Tryd.underlying27 rfl (by kernel_rfl) ?_)
      refine (HXX.out _ b1).mono ?_
      rintro e w2 ⟨rfl, hb2⟩
      have b2 := bl2 hb2 b1
      clear hb2 b1 kx
      by_cases h0 : xe = 0
      · have g0 : (xe != 0) = false := by rw [h0]; rfl
        have HE := Lib.hid (show totGo on (xs.drop (k + 1)) (s + xv) = totGo on xs 0 by have := HS.out; rw [if_pos h0] at this; exact this)
        have hxb := HEB.out h0
        clear h0 HEB
        have q1 : decide (1152921504606846976 < s + xv) = false := decide_eq_false (by omega)
        have q2 : decide (s + xv < -1152921504606846976) = false := decide_eq_false (by omega)
        go_wp2_with fail
        go_roundg (gk - 1)
        case measure => omega
        case rel => exact ⟨k + 1, s + xv, by omega, by go_num, by go_num, by simp, by omega, HE.out, b2⟩
      · have g0 : (xe != 0) = true := bne_iff_ne.2 h0
        have HE := Lib.hid (show (0, xe) = totGo on xs 0 by have := HS.out; rw [if_neg h0] at this; exact this)
        clear h0 HEB
        go_wp2_with fail
        go_ret2
        exact ⟨by rw [← HE.out]; rfl, b2⟩
    · have hs := HGO.out
      rw [tot_end hlt] at hs
      have HS := Lib.hid hs
      clear hs
      by_cases hg : Rd.gd s
      · have HE := Lib.hid (show (s, 0) = totGo on xs 0 by have := HS.out; rw [if_pos hg] at this; exact this)
        have hg' : -1000000000000 ≤ s ∧ s ≤ 1000000000000 := hg
        go_wp2_with fail
        refine (valid_any s _).mono ?_
        rintro e w' ⟨rfl, rfl⟩
        rw [decide_eq_true hg']
        go_wp2_with fail
        go_ret2
        exact ⟨by rw [← HE.out]; rfl, hbr⟩
      · have HE := Lib.hid (show (0, 6) = totGo on xs 0 by have := HS.out; rw [if_neg hg] at this; exact this)
        go_wp2_with fail
        refine (valid_any s _).mono ?_
        rintro e w' ⟨rfl, rfl⟩
        rw [decide_eq_false (show ¬(-1000000000000 ≤ s ∧ s ≤ 1000000000000) from hg)]
        go_wp2_with fail
        go_ret2
        exact ⟨by rw [← HE.out]; rfl, hbr⟩

set_option maxRecDepth 100000 in
set_option maxHeartbeats 8000000 in
theorem rtotal_any (a : Option Addr) (cap : Nat) (xs : List LoS) (on : Int) (w : World) (h : LosIn w a xs) (hn : xs.length ≤ 100000) (hd : ∀ x ∈ xs, Dok x.l.ds) :
    Calls Tryd.prog 21 #[.slice a xs.length cap, .int .i64 on] w fun e w' => e = .returned (.tuple #[.int .i64 (totGo on xs 0).1, .int .i64 (totGo on xs 0).2]) ∧ Below w.heap.size w w' := by
  have HX := Lib.hid (fun (x : LoS) (hx : x ∈ xs) (W : World) (hW : Below w.heap.size w W) => rexpd_any x.l x.da x.ca x.dk x.ck on W (dues_of_row (h.lens x hx) ((h.each x hx).later hW).d) (hd x hx))
  have H := Lib.hid h
  clear h hd
  go_enter Tryd.func21, Tryd.ntmps21
  go_wp2_with fail
  go_loopg [6, 7] xs.length (rtoR w xs on)
  case atStart => exact ⟨0, 0, by omega, rfl, rfl, by omega, rfl, Below.refl _ _⟩
  case round =>
    obtain ⟨k, s, hk, rfl, rfl, hb, hgo, hbr⟩ := hrel
    have HGO := Lib.hid hgo
    clear hgo
    by_cases hlt : k < xs.length
    · obtain ⟨b, off, rfl, hc⟩ := (H.out.row.later hbr).mid lenc_len (by omega)
      have hx := hc k hlt
      have hm : xs[k]! ∈ xs := by rw [getElem!_pos xs k hlt]; exact List.getElem_mem hlt
      have hs := HGO.out
      rw [tot_step hlt] at hs
      have HS := Lib.hid hs
      have HXX := Lib.hid (HX.out xs[k]! hm)
      have HEB := Lib.hid (fun (h : exE xs[k]!.l on = 0) => ex_bd h)
      clear hc hs hm
      generalize xs[k]! = x at *
      generalize exE x.l on = xe at *
      generalize exV x.l on = xv at *
      go_wp2_with (refine wpList_load_mid rfl 27 _ rfl b (off + k * 25) (by rfl) (lenc x) _ hx Tryd.underlying27 rfl (by kernel_rfl) ?_)
      refine (HXX.out _ hbr).mono ?_
      rintro e w2 ⟨rfl, hb2⟩
      have b2 := bl2 hb2 hbr
      clear hb2 hbr hx
      by_cases h0 : xe = 0
      · have g0 : (xe != 0) = false := by rw [h0]; rfl
        have HE := Lib.hid (show totGo on (xs.drop (k + 1)) (s + xv) = totGo on xs 0 by have := HS.out; rw [if_pos h0] at this; exact this)
        have hxb := HEB.out h0
        clear h0 HEB
        skip
        skip
        go_wp2_with fail
        go_roundg (gk - 1)
        case measure => omega
        case rel => exact ⟨k + 1, s + xv, by omega, by go_num, by go_num, by omega, HE.out, b2⟩
      · have g0 : (xe != 0) = true := bne_iff_ne.2 h0
        have HE := Lib.hid (show (0, xe) = totGo on xs 0 by have := HS.out; rw [if_neg h0] at this; exact this)
        clear h0 HEB
        go_wp2_with fail
        go_ret2
        exact ⟨by rw [← HE.out]; rfl, b2⟩
    · have hs := HGO.out
      rw [tot_end hlt] at hs
      have HS := Lib.hid hs
      clear hs
      by_cases hg : Rd.gd s
      · have HE := Lib.hid (show (s, 0) = totGo on xs 0 by have := HS.out; rw [if_pos hg] at this; exact this)
        have hg' : -1000000000000 ≤ s ∧ s ≤ 1000000000000 := hg
        go_wp2_with fail
        refine (Rd.rgood_yes s _ hg).mono ?_
        rintro e w' ⟨rfl, rfl⟩
        go_wp2_with fail
        go_ret2
        exact ⟨by rw [← HE.out]; rfl, hbr⟩
      · have HE := Lib.hid (show (0, 6) = totGo on xs 0 by have := HS.out; rw [if_neg hg] at this; exact this)
        go_wp2_with fail
        refine (Rd.rgood_no s _ hg).mono ?_
        rintro e w' ⟨rfl, rfl⟩
        go_wp2_with fail
        go_ret2
        exact ⟨by rw [← HE.out]; rfl, hbr⟩
end Go.Proofs.YtjicnlgndkcahaaDoor.Ln
