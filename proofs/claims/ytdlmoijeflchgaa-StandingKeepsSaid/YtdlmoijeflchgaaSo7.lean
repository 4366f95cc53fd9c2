/-
  Standing orders: the examples that every statement of this chapter requires: they hold.
-/
import Derived.Test.YtdlmoijeflchgaaSo6
namespace Go.Proofs.Ytdlmoijeflchgaa.So
open Go Go.RowKit
open Go.Proofs.Ytdlmoijeflchgaa
open Go.Proofs.Ytdlmoijeflchgaa.Cal
open Go.Proofs.Ytdlmoijeflchgaa.Kl (Cl CalIn adj addM addM_ok openB nxt up mend mend_bd oV oE dOk)
open Go.Proofs.Ytdlmoijeflchgaa.Ln (flat flat_len RowIn OwnR bl2 Blk_setRow_same Below_setRow)
set_option linter.unusedSimpArgs false
set_option linter.unusedVariables false
set_option maxRecDepth 100000

def rentB : ByteArray := { data := #[114, 101, 110, 116] }
def weekB : ByteArray := { data := #[119, 101, 101, 107] }
def mth (id : Int) : Od := ⟨id, 1000, 1001, 5, 30, 1, 31, 1000, 0, rentB⟩
def m59 : Od := ⟨1, 1000, 1001, 5, 59, 1, 31, 1000, 0, rentB⟩
def mT1 : Od := ⟨1, 1000, 1001, 5, 30, 1, 31, 1000, 1, rentB⟩
def mX : Od := ⟨2, 1000, 1001, 5, 30, 0, 31, 1000, 0, rentB⟩
def zOd : Od := ⟨0, 0, 0, 0, 0, 0, 0, 0, 0, { data := #[] }⟩
def wk : Cl := ⟨weekB, [5, 6], []⟩
theorem ok_mth : Ok (mth 1) := ok_of (by decide +kernel)
theorem ok_m59 : Ok m59 := ok_of (by decide +kernel)
theorem ok_mX : Ok mX := ok_of (by decide +kernel)
theorem civ30 : cy 30 = 2000 ∧ cm 30 = 1 ∧ ck 30 = 31 := civ_eq ⟨by decide, by decide, by decide, by decide, by decide, by decide, by decide⟩
theorem add30 : addM 30 1 31 = some 59 := by
  have c := civ30
  unfold addM
  rw [c.1, c.2.1, if_pos (by omega)]
  rw [show (12 * 2000 + 1 - 1 + 1) / 12 = (2000 : Int) by omega, show (12 * 2000 + 1 - 1 + 1) % 12 = (1 : Int) by omega]
  decide
theorem adj59 : adj wk 59 = some 59 := by
  have h : nxt wk 59 = some 59 := by
    unfold nxt
    rw [show (73049 - (59 : Int)).toNat = 72989 + 1 by decide]
    unfold up
    rw [show openB wk 59 = true by decide +kernel]
    rfl
  unfold adj
  rw [h]
  exact if_pos (mend_bd (by decide) (by decide)).1
theorem nx_mth : nx (mth 1) wk = some 59 := by
  have hm : mvd wk 59 = 59 := mvd_yes adj59 rfl
  have := nx_yes (o := mth 1) (c := wk) (n := 59) (by decide) add30 (by rw [hm]; decide)
  rw [hm] at this
  exact this
theorem nxE_mth : nxE (mth 1) wk = 0 ∧ nxV (mth 1) wk = 59 := by
  unfold nxE nxV
  rw [ok_mth.odE, nx_mth]
  exact ⟨rfl, rfl⟩
theorem nxE_mX : nxE mX wk = 23 := by
  unfold nxE
  rw [ok_mX.odE, nx_0 (show mX.ev = 0 from rfl)]
  rfl
theorem ad_1 : adE [] (mth 1) = 0 ∧ adL [] (mth 1) = [mth 1] := by
  have h : adE [] (mth 1) = 0 := by decide +kernel
  exact ⟨h, adL_yes h⟩
theorem ad_2 : adE [m59] mX = 0 ∧ adL [m59] mX = [m59, mX] := by
  have h : adE [m59] mX = 0 := by decide +kernel
  exact ⟨h, adL_yes h⟩
theorem dn_1 : dnE [mth 1] 1 30 = 0 ∧ dnR [mth 1] 1 30 true wk = [m59] := by
  have h : dnE [mth 1] 1 30 = 0 := by decide +kernel
  refine ⟨h, (dnR_yes h).trans ?_⟩
  rw [dnL_2 (by simp) (show nxE ([mth 1] : List Od)[ix [mth 1] 1]! wk = 0 from nxE_mth.1), show ([mth 1] : List Od)[ix [mth 1] 1]! = mth 1 from rfl, nxE_mth.2]
  rfl
theorem dn_2 : dnE [mth 1] 1 29 = 17 := by decide +kernel
theorem dn_3 : dnE [m59, mX] 2 31 = 0 ∧ dnR [m59, mX] 2 31 true wk = [m59] := by
  have h : dnE [m59, mX] 2 31 = 0 := by decide +kernel
  refine ⟨h, (dnR_yes h).trans ?_⟩
  rw [dnL_3 (by simp) (show ¬ nxE ([m59, mX] : List Od)[ix [m59, mX] 2]! wk = 0 from by rw [show ([m59, mX] : List Od)[ix [m59, mX] 2]! = mX from rfl, nxE_mX]; decide)]
  rfl
theorem dn_4 : dnE [mth 1] 1 30 = 0 ∧ dnR [mth 1] 1 30 false wk = [mT1] := by
  have h : dnE [mth 1] 1 30 = 0 := by decide +kernel
  refine ⟨h, (dnR_yes h).trans ?_⟩
  rw [dnL_1 ⟨rfl, by decide⟩]
  rfl
theorem ca_1 : caE [mth 1] 1 = 0 ∧ caR [mth 1] 1 = [] := ⟨by decide +kernel, (if_pos (by decide +kernel)).trans rfl⟩
theorem du_1 : duL [m59, mX] 30 = [mX] := rfl
theorem od_z : odE zOd = 1 := by decide +kernel
theorem row_lt {W : World} {a : Option Addr} {xs : List Od} (h : RowIn oenc W a xs) (h0 : 0 < xs.length) : ∀ ad, a = some ad → ad.block < W.heap.size := fun ad had => by
  obtain ⟨b, off, ha, hc⟩ := row_at h h0
  rw [had] at ha
  obtain rfl := Option.some.inj ha
  exact World.block_lt_of_cell? _ _ (hc 0 h0 0 _ rfl)
/-- monthly, week. -/
theorem mth_any (id : Int) (w : World) : Calls Try.prog 30 #[.int .i64 id] w fun e w' => e = .returned (.agg #[.int .i64 ((mth id)).id, .int .i64 ((mth id)).fr, .int .i64 ((mth id)).too, .int .i64 ((mth id)).am, .int .i64 ((mth id)).day, .int .i64 ((mth id)).ev, .int .i64 ((mth id)).an, .int .i64 ((mth id)).un, .int .i64 ((mth id)).tr, .string ((mth id)).tx]) ∧ Below w.heap.size w w' := by
  have b2 : Below w.heap.size w ((w.alloc (.cells #[.int .i64 0, .int .i64 0, .int .i64 0, .int .i64 0, .int .i64 0, .int .i64 0, .int .i64 0, .int .i64 0, .int .i64 0, .string { data := #[] }] 23)).setRow w.heap.size #[.int .i64 ((mth id)).id, .int .i64 ((mth id)).fr, .int .i64 ((mth id)).too, .int .i64 ((mth id)).am, .int .i64 ((mth id)).day, .int .i64 ((mth id)).ev, .int .i64 ((mth id)).an, .int .i64 ((mth id)).un, .int .i64 ((mth id)).tr, .string ((mth id)).tx]) := Below_setRow ((Below.refl _ _).alloc (Nat.le_refl _) _) (Nat.le_refl _) _
  have hz := (Bk.Blk.nw10 (W := w) (cs := #[.int .i64 0, .int .i64 0, .int .i64 0, .int .i64 0, .int .i64 0, .int .i64 0, .int .i64 0, .int .i64 0, .int .i64 0, .string { data := #[] }]) (t := 23))
  go_enter Try.func30, Try.ntmps30
  go_wp2_with (refine wpList_store_row rfl 23 _ _ rfl _ _ rfl rfl _ _ hz (by kernel_rfl) rfl (by simp [Value.oneCell']) ?_)
  refine bodyPost_ret (results_cell_row Try.results30 _ _ _ _ _ _ _ rfl (Blk_setRow_same hz) Try.underlying23 rfl (by kernel_rfl)) rfl ?_
  exact ⟨rfl, b2⟩
theorem week_any (w : World) : Calls Try.prog 31 #[] w fun e w' => ∃ g, e = .returned (.agg #[.string (wk).nm, .slice (some ⟨g, 0, none⟩) (wk).wk.length 2, .slice none (wk).hol.length 0]) ∧ CalIn w' wk (some ⟨g, 0, none⟩) none ∧ Below w.heap.size w w' := by
  have b2 : Below w.heap.size w (((w.alloc (.cells #[.string { data := #[] }, .slice none 0 0, .slice none 0 0] 26)).alloc (.cells #[.int .i64 5, .int .i64 6] 3)).setRow w.heap.size #[.string weekB, .slice (some ⟨w.heap.size + 1, 0, none⟩) 2 2, .slice none 0 0]) := Below_setRow (((Below.refl _ _).alloc (Nat.le_refl _) _).alloc (by simp) _) (Nat.le_refl _) _
  have hz := (Bk.Blk.nw20 (W := w) (cs := #[.string { data := #[] }, .slice none 0 0, .slice none 0 0]) (t := 26) (o1 := .cells #[.int .i64 5, .int .i64 6] 3))
  have hr := (Bk.Blk.nw21 (W := w) (o0 := .cells #[.string { data := #[] }, .slice none 0 0, .slice none 0 0] 26) (cs := #[.int .i64 5, .int .i64 6]) (t := 3))
  go_enter Try.func31, Try.ntmps31
  go_wp2_with (refine wpList_store_row rfl 26 _ _ rfl _ _ rfl rfl _ _ hz (by kernel_rfl) rfl (by simp [Value.oneCell']) ?_)
  refine bodyPost_ret (results_cell_row Try.results31 _ _ _ _ _ _ _ rfl (Blk_setRow_same hz) Try.underlying26 rfl (by kernel_rfl)) rfl ?_
  refine ⟨w.heap.size + 1, rfl, ⟨⟨by decide, fun _ => ⟨_, 0, rfl, fun j hj => ?_⟩⟩, ⟨by decide, fun h => absurd h (by decide)⟩, by decide⟩, b2⟩
  rw [(Ln.Blk_setRow_ne hr (by omega)).cell]
  match j, hj with
  | 0, _ => rfl
  | 1, _ => rfl
theorem live_1  (w : World)  : Calls Try.prog 16 #[.slice none 0 0, (.agg #[.int .i64 ((mth 1)).id, .int .i64 ((mth 1)).fr, .int .i64 ((mth 1)).too, .int .i64 ((mth 1)).am, .int .i64 ((mth 1)).day, .int .i64 ((mth 1)).ev, .int .i64 ((mth 1)).an, .int .i64 ((mth 1)).un, .int .i64 ((mth 1)).tr, .string ((mth 1)).tx])] w fun e w' => ∃ a c, e = .returned (.tuple #[.slice a 1 c, .int .i64 0]) ∧ RowIn oenc w' a [mth 1] ∧ Below w.heap.size w w' :=
  (add_any none 0 [] (mth 1) w (fun h => absurd h (by decide)) (by decide) (tx_max ok_mth)).mono fun e w' hh => by
    obtain ⟨a, c, he, hr, hb⟩ := hh
    rw [ad_1.2] at he hr; rw [ad_1.1] at he
    exact ⟨a, c, he, hr, hb⟩
theorem live_2 (a0 wa : Option Addr) (c0 : Nat) (w : World) (h : RowIn oenc w a0 [mth 1]) (hc : CalIn w wk wa none) : Calls Try.prog 18 #[.slice a0 1 c0, .int .i64 1, .int .i64 30, .bool true, (.agg #[.string (wk).nm, .slice wa (wk).wk.length 2, .slice none (wk).hol.length 0])] w fun e w' => ∃ a c, e = .returned (.tuple #[.slice a 1 c, .int .i64 0]) ∧ RowIn oenc w' a [m59] ∧ Below w.heap.size w w' :=
  (done_any a0 c0 [mth 1] 1 30 true wk wa none 2 0 w h (by decide) (by intro o ho; simp only [List.mem_cons, List.not_mem_nil, or_false] at ho; subst ho; exact ok_mth) hc).mono fun e w' hh => by
    obtain ⟨a, c, he, hr, hb⟩ := hh
    rw [dn_1.2] at he hr; rw [dn_1.1] at he
    exact ⟨a, c, he, hr, hb⟩
theorem live_3 (a0 wa : Option Addr) (c0 : Nat) (w : World) (h : RowIn oenc w a0 [mth 1]) (hc : CalIn w wk wa none) : Calls Try.prog 18 #[.slice a0 1 c0, .int .i64 1, .int .i64 29, .bool true, (.agg #[.string (wk).nm, .slice wa (wk).wk.length 2, .slice none (wk).hol.length 0])] w fun e w' => ∃ a c, e = .returned (.tuple #[.slice a 0 c, .int .i64 17]) ∧ RowIn oenc w' a [] ∧ Below w.heap.size w w' :=
  (done_any a0 c0 [mth 1] 1 29 true wk wa none 2 0 w h (by decide) (by intro o ho; simp only [List.mem_cons, List.not_mem_nil, or_false] at ho; subst ho; exact ok_mth) hc).mono fun e w' hh => by
    obtain ⟨a, c, he, hr, hb⟩ := hh
    rw [dn_2, dnR_no dn_2 (by decide)] at he; rw [dnR_no dn_2 (by decide)] at hr
    exact ⟨a, c, he, hr, hb⟩
theorem live_4 (a0 : Option Addr) (c0 : Nat) (w : World) (h : RowIn oenc w a0 [m59]) : Calls Try.prog 16 #[.slice a0 1 c0, (.agg #[.int .i64 (mX).id, .int .i64 (mX).fr, .int .i64 (mX).too, .int .i64 (mX).am, .int .i64 (mX).day, .int .i64 (mX).ev, .int .i64 (mX).an, .int .i64 (mX).un, .int .i64 (mX).tr, .string (mX).tx])] w fun e w' => ∃ a c, e = .returned (.tuple #[.slice a 2 c, .int .i64 0]) ∧ RowIn oenc w' a [m59, mX] ∧ Below w.heap.size w w' :=
  (add_any a0 c0 [m59] mX w h (by decide) (tx_max ok_mX)).mono fun e w' hh => by
    obtain ⟨a, c, he, hr, hb⟩ := hh
    rw [ad_2.2] at he hr; rw [ad_2.1] at he
    exact ⟨a, c, he, hr, hb⟩
theorem live_5 (a0 wa : Option Addr) (c0 : Nat) (w : World) (h : RowIn oenc w a0 [m59, mX]) (hc : CalIn w wk wa none) : Calls Try.prog 18 #[.slice a0 2 c0, .int .i64 2, .int .i64 31, .bool true, (.agg #[.string (wk).nm, .slice wa (wk).wk.length 2, .slice none (wk).hol.length 0])] w fun e w' => ∃ a c, e = .returned (.tuple #[.slice a 1 c, .int .i64 0]) ∧ RowIn oenc w' a [m59] ∧ Below w.heap.size w w' :=
  (done_any a0 c0 [m59, mX] 2 31 true wk wa none 2 0 w h (by decide) (by intro o ho; simp only [List.mem_cons, List.not_mem_nil, or_false] at ho; rcases ho with rfl | rfl; exact ok_m59; exact ok_mX) hc).mono fun e w' hh => by
    obtain ⟨a, c, he, hr, hb⟩ := hh
    rw [dn_3.2] at he hr; rw [dn_3.1] at he
    exact ⟨a, c, he, hr, hb⟩
theorem live_6 (a0 wa : Option Addr) (c0 : Nat) (w : World) (h : RowIn oenc w a0 [mth 1]) (hc : CalIn w wk wa none) : Calls Try.prog 18 #[.slice a0 1 c0, .int .i64 1, .int .i64 30, .bool false, (.agg #[.string (wk).nm, .slice wa (wk).wk.length 2, .slice none (wk).hol.length 0])] w fun e w' => ∃ a c, e = .returned (.tuple #[.slice a 1 c, .int .i64 0]) ∧ RowIn oenc w' a [mT1] ∧ Below w.heap.size w w' :=
  (done_any a0 c0 [mth 1] 1 30 false wk wa none 2 0 w h (by decide) (by intro o ho; simp only [List.mem_cons, List.not_mem_nil, or_false] at ho; subst ho; exact ok_mth) hc).mono fun e w' hh => by
    obtain ⟨a, c, he, hr, hb⟩ := hh
    rw [dn_4.2] at he hr; rw [dn_4.1] at he
    exact ⟨a, c, he, hr, hb⟩
theorem live_7 (a0 : Option Addr) (c0 : Nat) (w : World) (h : RowIn oenc w a0 [mth 1]) : Calls Try.prog 17 #[.slice a0 1 c0, .int .i64 1] w fun e w' => ∃ a c, e = .returned (.tuple #[.slice a 0 c, .int .i64 0]) ∧ RowIn oenc w' a [] ∧ Below w.heap.size w w' :=
  (cancel_any a0 c0 [mth 1] 1 w h (by decide)).mono fun e w' hh => by
    obtain ⟨a, c, he, hr, hb⟩ := hh
    rw [ca_1.2] at he hr; rw [ca_1.1] at he
    exact ⟨a, c, he, hr, hb⟩
theorem live_8 (a0 : Option Addr) (c0 : Nat) (w : World) (h : RowIn oenc w a0 [m59, mX]) : Calls Try.prog 21 #[.slice a0 2 c0, .int .i64 30] w fun e w' => ∃ a c, e = .returned (.slice a 1 c) ∧ Below w.heap.size w w' :=
  (due_any a0 c0 [m59, mX] 30 w h (by decide)).mono fun e w' ⟨a, c, he, _, hb⟩ => by
    rw [du_1] at he
    exact ⟨a, c, he, hb⟩
theorem live_9 (w : World) : Calls Try.prog 10 #[(.agg #[.int .i64 (zOd).id, .int .i64 (zOd).fr, .int .i64 (zOd).too, .int .i64 (zOd).am, .int .i64 (zOd).day, .int .i64 (zOd).ev, .int .i64 (zOd).an, .int .i64 (zOd).un, .int .i64 (zOd).tr, .string (zOd).tx])] w fun e w' => e = .returned (.int .i64 1) ∧ Below w.heap.size w w' :=
  (odchk_any zOd w (by decide)).mono fun e w' ⟨he, hb⟩ => by
    rw [od_z] at he
    exact ⟨he, hb⟩
set_option maxHeartbeats 16000000 in
theorem live_any (w : World) : Calls Try.prog 12 #[] w fun e w' => e = .returned (.bool true) ∧ Below w.heap.size w w' := by
  go_enter Try.func12, Try.ntmps12
  have cw := Below.refl w.heap.size w
  go_wp2_with fail
  refine (mth_any 1 _).mono ?_
  rintro e w1 ⟨rfl, hb⟩
  have cw1 := bl2 hb cw
  clear hb cw
  go_wp2_with fail
  refine (live_1 _).mono ?_
  rintro e w2 ⟨a1, k1, rfl, h1, hb⟩
  have cw2 := bl2 hb cw1
  clear hb cw1
  go_wp2_with fail
  refine (week_any _).mono ?_
  rintro e w3 ⟨g2, rfl, hc2, hb⟩
  replace h1 := h1.later hb
  have cw3 := bl2 hb cw2
  clear hb cw2
  go_wp2_with fail
  refine (live_2 a1 (some ⟨g2, 0, none⟩) k1 _ h1 hc2).mono ?_
  rintro e w4 ⟨a2, k2, rfl, h2, hb⟩
  replace h1 := h1.later hb
  replace hc2 := hc2.later hb
  have cw4 := bl2 hb cw3
  clear hb cw3
  clear hc2
  go_wp2_with fail
  refine (week_any _).mono ?_
  rintro e w5 ⟨g3, rfl, hc3, hb⟩
  replace h1 := h1.later hb
  replace h2 := h2.later hb
  have cw5 := bl2 hb cw4
  clear hb cw4
  go_wp2_with fail
  refine (live_3 a1 (some ⟨g3, 0, none⟩) k1 _ h1 hc3).mono ?_
  rintro e w6 ⟨a3, k3, rfl, _, hb⟩
  replace h1 := h1.later hb
  replace h2 := h2.later hb
  replace hc3 := hc3.later hb
  have cw6 := bl2 hb cw5
  clear hb cw5
  clear hc3
  go_wp2_with fail
  refine (mth_any 2 _).mono ?_
  rintro e w7 ⟨rfl, hb⟩
  replace h1 := h1.later hb
  replace h2 := h2.later hb
  have cw7 := bl2 hb cw6
  clear hb cw6
  go_upto_region 5 with (refine wpList_store_row rfl 23 _ _ rfl _ _ rfl rfl _ _ Bk.Blk.nw10 (by kernel_rfl) rfl (by simp [Value.oneCell']) ?_)
  have hbs : Below w7.heap.size w7 ((w7.alloc (.cells #[.int .i64 0, .int .i64 0, .int .i64 0, .int .i64 0, .int .i64 0, .int .i64 0, .int .i64 0, .int .i64 0, .int .i64 0, .string { data := #[] }] 23)).setRow w7.heap.size #[.int .i64 ((mth 2)).id, .int .i64 ((mth 2)).fr, .int .i64 ((mth 2)).too, .int .i64 ((mth 2)).am, .int .i64 ((mth 2)).day, .int .i64 ((mth 2)).ev, .int .i64 ((mth 2)).an, .int .i64 ((mth 2)).un, .int .i64 ((mth 2)).tr, .string ((mth 2)).tx]) := Below_setRow ((Below.refl _ _).alloc (Nat.le_refl _) _) (Nat.le_refl _) _
  have kx : Bk.Blk ((w7.alloc (.cells #[.int .i64 0, .int .i64 0, .int .i64 0, .int .i64 0, .int .i64 0, .int .i64 0, .int .i64 0, .int .i64 0, .int .i64 0, .string { data := #[] }] 23)).setRow w7.heap.size #[.int .i64 ((mth 2)).id, .int .i64 ((mth 2)).fr, .int .i64 ((mth 2)).too, .int .i64 ((mth 2)).am, .int .i64 ((mth 2)).day, .int .i64 ((mth 2)).ev, .int .i64 ((mth 2)).an, .int .i64 ((mth 2)).un, .int .i64 ((mth 2)).tr, .string ((mth 2)).tx]) w7.heap.size #[.int .i64 ((mth 2)).id, .int .i64 ((mth 2)).fr, .int .i64 ((mth 2)).too, .int .i64 ((mth 2)).am, .int .i64 ((mth 2)).day, .int .i64 ((mth 2)).ev, .int .i64 ((mth 2)).an, .int .i64 ((mth 2)).un, .int .i64 ((mth 2)).tr, .string ((mth 2)).tx] 23 := Blk_setRow_same Bk.Blk.nw10
  have hl1 := row_lt h1 (by decide)
  have hl2 := row_lt h2 (by decide)
  replace h1 := h1.later hbs
  replace h2 := h2.later hbs
  have cw8 := bl2 hbs cw7
  have hgx := cw7.size
  clear cw7 hbs
  generalize ((w7.alloc (.cells #[.int .i64 0, .int .i64 0, .int .i64 0, .int .i64 0, .int .i64 0, .int .i64 0, .int .i64 0, .int .i64 0, .int .i64 0, .string { data := #[] }] 23)).setRow w7.heap.size #[.int .i64 ((mth 2)).id, .int .i64 ((mth 2)).fr, .int .i64 ((mth 2)).too, .int .i64 ((mth 2)).am, .int .i64 ((mth 2)).day, .int .i64 ((mth 2)).ev, .int .i64 ((mth 2)).an, .int .i64 ((mth 2)).un, .int .i64 ((mth 2)).tr, .string ((mth 2)).tx]) = w8 at *
  generalize w7.heap.size = gx at *
  have c5 := kx.c5
  have f5 := kx.f5
  go_upto_region 6 with fail
  clear c5 f5
  have ky : Bk.Blk (w8.setCell ⟨gx, 5, none⟩ (.int .i64 0)) gx #[.int .i64 (mX).id, .int .i64 (mX).fr, .int .i64 (mX).too, .int .i64 (mX).am, .int .i64 (mX).day, .int .i64 (mX).ev, .int .i64 (mX).an, .int .i64 (mX).un, .int .i64 (mX).tr, .string (mX).tx] 23 := (kx.set_same (i := 5) (u := .int .i64 0)).conv rfl
  replace h1 : RowIn oenc (w8.setCell ⟨gx, 5, none⟩ (.int .i64 0)) a1 [mth 1] := Ln.row_put h1 (fun ad had => Nat.ne_of_lt (hl1 ad had))
  replace h2 : RowIn oenc (w8.setCell ⟨gx, 5, none⟩ (.int .i64 0)) a2 [m59] := Ln.row_put h2 (fun ad had => Nat.ne_of_lt (hl2 ad had))
  have cw9 : Below w.heap.size w (w8.setCell ⟨gx, 5, none⟩ (.int .i64 0)) := cw8.setCell hgx _
  clear cw8 kx hl1 hl2
  generalize (w8.setCell ⟨gx, 5, none⟩ (.int .i64 0)) = w9 at *
  go_wp2_with (refine wpList_load_row rfl 23 _ rfl _ rfl _ _ _ _ ky Try.underlying23 rfl (by kernel_rfl) ?_)
  clear ky
  refine (live_4 a2 k2 _ h2).mono ?_
  rintro e w10 ⟨a4, k4, rfl, h4, hb⟩
  replace h1 := h1.later hb
  replace h2 := h2.later hb
  have cw10 := bl2 hb cw9
  clear hb cw9
  go_wp2_with fail
  refine (week_any _).mono ?_
  rintro e w11 ⟨g5, rfl, hc5, hb⟩
  replace h1 := h1.later hb
  replace h2 := h2.later hb
  replace h4 := h4.later hb
  have cw11 := bl2 hb cw10
  clear hb cw10
  go_wp2_with fail
  refine (live_5 a4 (some ⟨g5, 0, none⟩) k4 _ h4 hc5).mono ?_
  rintro e w12 ⟨a5, k5, rfl, _, hb⟩
  replace h1 := h1.later hb
  replace h2 := h2.later hb
  replace h4 := h4.later hb
  replace hc5 := hc5.later hb
  have cw12 := bl2 hb cw11
  clear hb cw11
  clear hc5
  go_wp2_with fail
  refine (week_any _).mono ?_
  rintro e w13 ⟨g6, rfl, hc6, hb⟩
  replace h1 := h1.later hb
  replace h2 := h2.later hb
  replace h4 := h4.later hb
  have cw13 := bl2 hb cw12
  clear hb cw12
  go_wp2_with fail
  refine (live_6 a1 (some ⟨g6, 0, none⟩) k1 _ h1 hc6).mono ?_
  rintro e w14 ⟨a6, k6, rfl, h6, hb⟩
  replace h1 := h1.later hb
  replace h2 := h2.later hb
  replace h4 := h4.later hb
  replace hc6 := hc6.later hb
  have cw14 := bl2 hb cw13
  clear hb cw13
  clear hc6
  go_wp2_with fail
  refine (live_7 a1 k1 _ h1).mono ?_
  rintro e w15 ⟨a7, k7, rfl, _, hb⟩
  replace h1 := h1.later hb
  replace h2 := h2.later hb
  replace h4 := h4.later hb
  replace h6 := h6.later hb
  have cw15 := bl2 hb cw14
  clear hb cw14
  obtain ⟨b2, o2, rfl, hq2⟩ := row_at h2 (by decide)
  obtain ⟨b6, o6, rfl, hq6⟩ := row_at h6 (by decide)
  have e2 : w15.cell? ⟨b2, o2 + 4, none⟩ = some (.int .i64 59) := hq2 0 (by decide) 4 _ rfl
  clear hq2 hq6
  go_wp2_with fail
  clear e2
  refine (live_8 a4 k4 _ h4).mono ?_
  rintro e w16 ⟨a8, k8, rfl, hb⟩
  replace h1 := h1.later hb
  replace h2 := h2.later hb
  replace h4 := h4.later hb
  replace h6 := h6.later hb
  have cw16 := bl2 hb cw15
  clear hb cw15
  obtain ⟨b, o, ha, hq6⟩ := row_at h6 (by decide)
  obtain ⟨rfl, rfl⟩ : b6 = b ∧ o6 = o := by simpa using ha
  clear ha
  have e8 : w16.cell? ⟨b6, o6 + 8, none⟩ = some (.int .i64 1) := hq6 0 (by decide) 8 _ rfl
  have e4 : w16.cell? ⟨b6, o6 + 4, none⟩ = some (.int .i64 30) := hq6 0 (by decide) 4 _ rfl
  clear hq6
  go_wp2_with fail
  clear e8 e4
  refine (live_9 _).mono ?_
  rintro e w17 ⟨rfl, hb⟩
  have cw17 := bl2 hb cw16
  clear hb cw16
  go_wp2_with fail
  go_ret
  exact ⟨rfl, cw17⟩
end Go.Proofs.Ytdlmoijeflchgaa.So
