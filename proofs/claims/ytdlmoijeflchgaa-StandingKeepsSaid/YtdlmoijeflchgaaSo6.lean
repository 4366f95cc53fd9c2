/-
  Cancel, Due, Done of standing orders: the program's.
-/
import Derived.Test.YtdlmoijeflchgaaSo5
namespace Go.Proofs.Ytdlmoijeflchgaa.So
open Go Go.RowKit
open Go.Proofs.Ytdlmoijeflchgaa
open Go.Proofs.Ytdlmoijeflchgaa.Kl (Cl CalIn)
open Go.Proofs.Ytdlmoijeflchgaa.Ln (flat flat_len RowIn OwnR bl2 take_at one_at call_wp call_one call_at yields_load_row)
set_option linter.unusedSimpArgs false
set_option linter.unusedVariables false
set_option maxRecDepth 100000

theorem caE_no {l : List Od} {id : Int} (h : ix l id = l.length) : caE l id = 11 ∧ caR l id = [] := by
  have e : caE l id = 11 := if_neg (by omega)
  exact ⟨e, if_neg (by rw [e]; decide)⟩
theorem caE_yes {l : List Od} {id : Int} (h : ix l id < l.length) : caE l id = 0 ∧ caR l id = l.eraseIdx (ix l id) := by
  have e : caE l id = 0 := if_pos h
  exact ⟨e, if_pos e⟩
/-- A list with one order at least, cloned. -/
theorem clo_any (a : Option Addr) (cap : Nat) (l : List Od) (w : World) (h : RowIn oenc w a l) (hl : l.length ≤ 100000) (h0 : 0 < l.length) : Calls Try.prog 32 #[.slice a l.length cap] w fun e w' => ∃ g c, e = .returned (.slice (some ⟨g, 0, none⟩) l.length c) ∧ OwnR oenc 10 23 w' w.heap.size g c l ∧ Below w.heap.size w w' :=
  (cloneo_any a cap l w h hl).mono fun e w' hh => by
    rcases hh with ⟨hb, ⟨_, hn, _⟩ | ⟨g, c, he, ho⟩⟩
    · rw [hn] at h0; cases h0
    · exact ⟨g, c, he, ho, hb⟩
theorem del_at (B g c i : Nat) (xs : List Od) (w : World) (ho : OwnR oenc 10 23 w B g c xs) (hn : xs.length ≤ 100000) (hi : i < xs.length) :
    Calls Try.prog 34 #[.slice (some ⟨g, 0, none⟩) xs.length c, .int .i64 i, .int .i64 ((i : Int) + 1)] w fun e w' => e = .returned (.slice (some ⟨g, 0, none⟩) (xs.eraseIdx i).length c) ∧ RowIn oenc w' (some ⟨g, 0, none⟩) (xs.eraseIdx i) ∧ Below B w w' := by
  rw [show ((i : Int) + 1) = ((i + 1 : Nat) : Int) from rfl]
  exact delo_any B g c i (i + 1) (xs.length - (i + 1)) xs w ho hn rfl (by omega)
set_option maxHeartbeats 4000000 in
theorem cancel_any (a : Option Addr) (cap : Nat) (l : List Od) (id : Int) (w : World) (h : RowIn oenc w a l) (hl : l.length ≤ 100000) : Calls Try.prog 17 #[.slice a l.length cap, .int .i64 id] w (LOut (caR l id) (caE l id) w) := by
  go_enter Try.func17, Try.ntmps17
  go_wp2_with fail
  refine (index_any a cap l id _ hl h).mono ?_
  rintro e w1 ⟨r, rfl, hr, hb⟩
  have hrw := h.later hb
  rcases hr with ⟨rfl, hi⟩ | ⟨rfl, hi⟩
  · have HF := Lib.hid (caE_no hi)
    clear hrw
    go_wp2_with fail
    go_ret2
    rw [HF.out.1, HF.out.2]
    exact lout_no rfl hb
  · have HF := Lib.hid (caE_yes hi)
    generalize ix l id = i at *
    have hneg : ¬ (i : Int) < 0 := by omega
    go_wp2_with fail
    refine (clo_any a cap l _ hrw hl (by omega)).mono ?_
    rintro e w2 ⟨g, c, rfl, ho, hb2⟩
    have cw2 := bl2 hb2 hb
    have hsz := hb.size
    clear hrw hb2 hb
    have hi63 : i ≤ 100000 := by omega
    go_wp2_with fail
    refine (del_at w1.heap.size g c i l _ ho hl hi).mono ?_
    rintro e w3 ⟨rfl, hr3, hb3⟩
    go_wp2_with fail
    go_ret2
    rw [HF.out.1, HF.out.2]
    exact ⟨_, _, rfl, hr3, cw2.trans (hb3.mono hsz)⟩
theorem due1_any (day : Int) (b B : Nat) (w : World) (hb : b < B) (hc : w.cell? ⟨b, 0, none⟩ = some (.int .i64 day)) : PredO 38 #[.pointer (some ⟨b, 0, none⟩)] (fun d => decide (day < d.day)) B w := by
  intro d W hW
  have hc' : W.cell? ⟨b, 0, none⟩ = some (.int .i64 day) := (hW.cell (p := ⟨b, 0, none⟩) hb).trans hc
  have hlt := World.block_lt_of_cell? _ _ hc'
  have hne : b ≠ W.heap.size := by
    have : b < W.heap.size := hlt
    omega
  show Calls Try.prog 38 #[(.agg #[.int .i64 (d).id, .int .i64 (d).fr, .int .i64 (d).too, .int .i64 (d).am, .int .i64 (d).day, .int .i64 (d).ev, .int .i64 (d).an, .int .i64 (d).un, .int .i64 (d).tr, .string (d).tx]), .pointer (some ⟨b, 0, none⟩)] W _
  go_enter Try.func38, Try.ntmps38
  go_wp2_with fail
  go_ret
  exact ⟨by first | rfl | simp, (Below.refl _ _).alloc (Nat.le_refl _) _⟩
theorem oix_nil (g0 : Nat) (lb : Array Value) (w : World) :
    Calls Try.prog 45 #[.slice none 0 0, .func (.func g0) #[] lb] w fun e w' => e = .returned (.int .i64 (-1)) ∧ Below w.heap.size w w' := by
  go_enter Try.func45, Try.ntmps45
  go_wp2_with fail
  go_loopg [8] 0 (fun _ s8 W => s8 = .int .i64 0 ∧ W = w)
  case atStart => exact ⟨rfl, rfl⟩
  case round =>
    obtain ⟨rfl, rfl⟩ := hrel
    go_wp2_with fail
    go_ret
    exact ⟨rfl, Below.refl _ _⟩
theorem odel_nil (g0 : Nat) (lb : Array Value) (w : World) :
    Calls Try.prog 37 #[.slice none 0 0, .func (.func g0) #[] lb] w fun e w' => e = .returned (.slice none 0 0) ∧ Below w.heap.size w w' := by
  have HI := Lib.hid (oix_nil g0 lb w)
  go_enter Try.func37, Try.ntmps37
  go_wp2_with fail
  refine (HI.out).mono ?_
  rintro e w1 ⟨rfl, hb1⟩
  go_wp2_with fail
  go_ret
  exact ⟨rfl, hb1⟩
set_option maxHeartbeats 4000000 in
theorem due_any (a : Option Addr) (cap : Nat) (l : List Od) (day : Int) (w : World) (h : RowIn oenc w a l) (hl : l.length ≤ 100000) :
    Calls Try.prog 21 #[.slice a l.length cap, .int .i64 day] w fun e w' => ∃ a' c', e = .returned (.slice a' (duL l day).length c') ∧ RowIn oenc w' a' (duL l day) ∧ Below w.heap.size w w' := by
  have HC := Lib.hid (fun (W : World) (hb : Below w.heap.size w W) => cloneo_any a cap l W (h.later hb) hl)
  have hbx : Below w.heap.size w (w.alloc (.cells #[.int .i64 day] 3)) := (Below.refl _ _).alloc (Nat.le_refl _) _
  have hk0 := Bk.Blk.nw10 (W := w) (cs := #[.int .i64 day]) (t := 3)
  obtain ⟨r, hr⟩ : ∃ r, r = duL l day := ⟨_, rfl⟩
  rw [← hr]
  have HR := Lib.hid hr
  clear h hr
  go_enter Try.func21, Try.ntmps21
  go_wp2_with fail
  refine (HC.out _ hbx).mono ?_
  rintro e w2 ⟨hb2, ⟨ha, hds, rfl⟩ | ⟨g, c, rfl, ho⟩⟩
  · have b2 := bl2 hb2 hbx
    go_wp2_with fail
    refine (odel_nil _ _ _).mono ?_
    rintro e w3 ⟨rfl, hb3⟩
    go_wp2_with fail
    go_ret
    have hr0 : r = [] := by rw [HR.out, hds]; rfl
    exact ⟨none, 0, by rw [hr0]; rfl, by rw [hr0]; exact fun h => by simp at h, bl2 hb3 b2⟩
  · have b2 := bl2 hb2 hbx
    have hk2 := hk0.later hb2
    have hcx : l.length ≤ c := by
      obtain ⟨_, _, X, hX, _⟩ := ho
      omega
    have hs1 : (w.alloc (.cells #[.int .i64 day] 3)).heap.size = w.heap.size + 1 := by simp
    rw [hs1] at ho
    have HD := Lib.hid (odel_any 38 #[.pointer (some ⟨w.heap.size, 0, none⟩)] (fun d => decide (day < d.day)) (w.heap.size + 1) g c l w2 (enters_of Try.func38 (by kernel_rfl) rfl) (due1_any day w.heap.size (w.heap.size + 1) w2 (by omega) hk2.c0) ho hl hcx)
    rw [show (l.filter fun x => !decide (day < x.day)) = duL l day from rfl, ← HR.out] at HD
    clear hk2 hk0 ho hcx
    go_wp2_with fail
    refine (HD.out).mono ?_
    rintro e w3 ⟨rfl, hrow, hb3⟩
    go_wp2_with fail
    go_ret
    exact ⟨some ⟨g, 0, none⟩, c, rfl, hrow, b2.trans (hb3.mono (by omega))⟩
theorem tx_max {o : Od} (h : Ok o) : o.tx.size ≤ maxLen := by
  have := h.tx
  unfold txB at this
  rw [Bool.and_eq_true, decide_eq_true_eq] at this
  unfold maxLen
  omega
theorem dnE_no {l : List Od} {id day : Int} (h : ix l id = l.length) : dnE l id day = 11 := if_neg (by omega)
theorem dnE_late {l : List Od} {id day : Int} (h : ix l id < l.length) (h2 : day < l[ix l id]!.day) : dnE l id day = 17 := (if_pos h).trans (if_pos h2)
theorem dnE_yes {l : List Od} {id day : Int} (h : ix l id < l.length) (h2 : ¬ day < l[ix l id]!.day) : dnE l id day = 0 := (if_pos h).trans (if_neg h2)
theorem dnR_no {l : List Od} {id day E : Int} {ok : Bool} {c : Cl} (h : dnE l id day = E) (h0 : E ≠ 0) : dnR l id day ok c = [] := if_neg (by rw [h]; exact h0)
theorem dnR_yes {l : List Od} {id day : Int} {ok : Bool} {c : Cl} (h : dnE l id day = 0) : dnR l id day ok c = dnL l id ok c := if_pos h
/-- One cell of an order of a row is stored. -/
theorem oflat_put (x : Od) (v : Value) (j : Nat) (X : List Value) (ys : List Od) (i : Nat) (hi : i < ys.length) (hj : j < 10) (e : (oenc ys[i]!).set j v = oenc x) : (flat oenc ys ++ X).toArray.setIfInBounds (i * 10 + j) v = (flat oenc (ys.set i x) ++ X).toArray := by
  rw [List.setIfInBounds_toArray]
  congr 1
  rw [getElem!_pos ys i hi] at e
  have e1 : flat oenc ys = flat oenc (ys.take i) ++ (oenc ys[i] ++ flat oenc (ys.drop (i + 1))) := by
    have : oenc ys[i] ++ flat oenc (ys.drop (i + 1)) = flat oenc (ys[i] :: ys.drop (i + 1)) := rfl
    rw [this, ← flat_append, ← List.drop_eq_getElem_cons hi, List.take_append_drop]
  have e2 : flat oenc (ys.set i x) = flat oenc (ys.take i) ++ (oenc x ++ flat oenc (ys.drop (i + 1))) := by
    have : oenc x ++ flat oenc (ys.drop (i + 1)) = flat oenc (x :: ys.drop (i + 1)) := rfl
    rw [this, ← flat_append, List.set_eq_take_append_cons_drop, if_pos hi]
  have l1 : (flat oenc (ys.take i)).length = i * 10 := by rw [flat_len oenc_len, List.length_take]; congr 1; omega
  rw [e1, e2, ← e, List.append_assoc, List.set_append_right _ _ (by rw [l1]; omega), l1, Nat.add_sub_cancel_left, List.append_assoc, List.set_append_left _ _ (by rw [oenc_len]; omega)]
  simp only [List.append_assoc]
/-- Two blocks are known, and old memory is as it was. -/
def SK (w0 : World) (g : Nat) (cs : Array Value) (t : TypeId) (g' : Nat) (cs' : Array Value) (t' : TypeId) (W : World) : Prop := (Bk.Blk W g cs t ∧ Bk.Blk W g' cs' t') ∧ Below w0.heap.size w0 W
theorem SK.mono {w0 : World} {g : Nat} {cs : Array Value} {t : TypeId} {g' : Nat} {cs' : Array Value} {t' : TypeId} : ∀ W W', SK w0 g cs t g' cs' t' W → Below W.heap.size W W' → SK w0 g cs t g' cs' t' W' := fun _ _ h hb => ⟨⟨h.1.1.later hb, h.1.2.later hb⟩, bl2 hb h.2⟩
set_option maxHeartbeats 16000000 in
theorem done_any (a : Option Addr) (cap : Nat) (l : List Od) (id day : Int) (ok : Bool) (c : Cl) (wa ha : Option Addr) (wc hc : Nat) (w : World) (h : RowIn oenc w a l) (hl : l.length ≤ 100000) (hR : ∀ o ∈ l, Ok o) (hcal : CalIn w c wa ha) : Calls Try.prog 18 #[.slice a l.length cap, .int .i64 id, .int .i64 day, .bool ok, (.agg #[.string (c).nm, .slice wa (c).wk.length wc, .slice ha (c).hol.length hc])] w (LOut (dnR l id day ok c) (dnE l id day) w) := by
  have cw : Below w.heap.size w (w.alloc (.cells #[.string c.nm, .slice wa c.wk.length wc, .slice ha c.hol.length hc] 26)) := (Below.refl _ _).alloc (Nat.le_refl _) _
  have kc : Bk.Blk (w.alloc (.cells #[.string c.nm, .slice wa c.wk.length wc, .slice ha c.hol.length hc] 26)) w.heap.size #[.string c.nm, .slice wa c.wk.length wc, .slice ha c.hol.length hc] 26 := Bk.Blk.nw10
  have hr := h.later cw
  have hi := hcal.later cw
  clear h hcal
  go_enter Try.func18, Try.ntmps18
  go_upto_region 1 with fail
  generalize (w.alloc (.cells #[.string c.nm, .slice wa c.wk.length wc, .slice ha c.hol.length hc] 26)) = w1 at *
  have cw1 := cw
  clear cw
  go_wp2_with fail
  refine (index_any a cap l id _ hl hr).mono ?_
  rintro e w2 ⟨r, rfl, hri, hb⟩
  replace hr := hr.later hb
  replace kc := kc.later hb
  replace hi := hi.later hb
  have cw2 := bl2 hb cw1
  clear hb cw1
  rcases hri with ⟨rfl, hx⟩ | ⟨rfl, hx⟩
  · have HF := Lib.hid (dnE_no (day := day) hx)
    clear hr
    go_wp2_with fail
    go_ret2
    rw [HF.out]
    exact lout_no (dnR_no HF.out (by decide)) cw2
  · have hL := Lib.hid (fun h => dnE_late (day := day) hx h)
    have hY := Lib.hid (fun h => dnE_yes (day := day) hx h)
    have hO := hR _ (show l[ix l id]! ∈ l by rw [getElem!_pos l _ hx]; exact List.getElem_mem _)
    have HD1 := Lib.hid (fun h => dnL_1 (l := l) (id := id) (ok := ok) (c := c) h)
    have HD2 := Lib.hid (fun h h2 => dnL_2 (l := l) (id := id) (ok := ok) (c := c) h h2)
    have HD3 := Lib.hid (fun h h2 => dnL_3 (l := l) (id := id) (ok := ok) (c := c) h h2)
    generalize ix l id = i at *
    have hneg : ¬ (i : Int) < 0 := by omega
    have hi63 : i ≤ 100000 := by omega
    obtain ⟨b, off, rfl, hcc⟩ := row_at hr (by omega)
    have c4 : w2.cell? ⟨b, off + i * 10 + 4, none⟩ = some (.int .i64 l[i]!.day) := hcc i hx 4 _ rfl
    obtain ⟨x, hxx⟩ : ∃ x, x = l[i]! := ⟨_, rfl⟩
    rw [← hxx] at c4 hL hY hO HD1 HD2 HD3
    have HX := Lib.hid hxx
    clear hxx hcc
    by_cases hd : day < x.day
    · have HF := Lib.hid (hL.out hd)
      clear hr hY hL
      go_wp2_with fail
      go_ret2
      rw [HF.out]
      exact lout_no (dnR_no HF.out (by decide)) cw2
    · have HF := Lib.hid (hY.out hd)
      clear hL hY
      go_wp2_with fail
      refine (clo_any _ cap l _ hr hl (by omega)).mono ?_
      rintro e w3 ⟨g, cp, rfl, ho, hb⟩
      have hkc2 := kc.lt
      replace kc := kc.later hb
      replace hi := hi.later hb
      have cw3 := bl2 hb cw2
      have hsz2 := cw2.size
      have hkc := kc.lt
      clear hr hb cw2 c4
      obtain ⟨hB, hcm, X, hX, hk⟩ := ho
      have hcx : l.length ≤ cp := by omega
      have hgc : w.heap.size < g := by omega
      have hm := oblk_mid hk hx
      rw [← HX.out] at hm
      have c8 : w3.cell? ⟨g, i * 10 + 8, none⟩ = some (.int .i64 x.tr) := hm 8 _ rfl
      have f8 : w3.frozen? ⟨g, i * 10 + 8, none⟩ = false := hk.free _
      cases ok
      · by_cases ht : x.tr < 2
        · have ht0 := hO.tr.1
          have HL1 := Lib.hid (HD1.out ⟨rfl, ht⟩)
          clear HD1 HD2 HD3
          go_wp2_with fail
          go_ret2
          rw [HF.out, dnR_yes HF.out, HL1.out]
          have hk2 : Bk.Blk (w3.setCell ⟨g, i * 10 + 8, none⟩ (.int .i64 (x.tr + 1))) g ((flat oenc (l.set i { x with tr := x.tr + 1 }) ++ X).toArray) 23 := by
            rw [← oflat_put { x with tr := x.tr + 1 } (.int .i64 (x.tr + 1)) 8 X l i hx (by omega) (by rw [← HX.out]; rfl)]
            exact hk.set_same
          exact ⟨some ⟨g, 0, none⟩, cp, by first | (rw [List.length_set]; done) | (rw [List.length_set]; rfl), (show OwnR oenc 10 23 _ w.heap.size g cp (l.set i { x with tr := x.tr + 1 }) from ⟨by omega, hcm, X, by rw [List.length_set]; exact hX, hk2⟩).row, cw3.setCell (show w.heap.size ≤ g by omega) _⟩
        · have hS0 : SK w3 w.heap.size #[.string c.nm, .slice wa c.wk.length wc, .slice ha c.hol.length hc] 26 g ((flat oenc l ++ X).toArray) 23 w3.drew := ⟨⟨kc.drew, hk.drew⟩, (Below.refl _ _).drew⟩
          have HNX := Lib.hid (fun W (hW : SK w3 w.heap.size #[.string c.nm, .slice wa c.wk.length wc, .slice ha c.hol.length hc] 26 g ((flat oenc l ++ X).toArray) 23 W) => next_any x c wa ha wc hc W (hi.later hW.2) (tx_max hO))
          have HMM := Lib.hid (fun W (hW : SK w3 w.heap.size #[.string c.nm, .slice wa c.wk.length wc, .slice ha c.hol.length hc] 26 g ((flat oenc l ++ X).toArray) 23 W) => (show W.rangeAt g (i * 10) (oenc x) from by have q := oblk_mid hW.1.2 hx; rwa [← HX.out] at q))
          have hlt : i < l.length := hx
          go_upto_region 10 with fail
          clear c8 f8
          refine wp_region_held_drew (S := SK w3 w.heap.size #[.string c.nm, .slice wa c.wk.length wc, .slice ha c.hol.length hc] 26 g ((flat oenc l ++ X).toArray) 23) (by kernel_rfl) hS0 (fun hS => ?_)
          clear hS0 kc hk hi hm
          refine take_at 0 (by decide) (v := ?_) (by kernel_rfl) (by kernel_rfl) (by kernel_rfl) (fun _ _ _ h => h) hS (Or.inl ⟨by rfl, ?_⟩) ?_
          rotate_left
          · intro W hW
            skip
            clear hW
            simp only [List.getElem_cons_zero, List.getElem_cons_succ]
            go_simp
            first | done | with_reducible rfl
          simp only [List.getElem_cons_zero, List.getElem_cons_succ, Act.put, List.setIfInBounds_toArray, List.set_cons_zero, List.set_cons_succ]
          refine take_at 1 (by decide) (v := ?_) (by kernel_rfl) (by kernel_rfl) (by kernel_rfl) (fun _ _ _ h => h) hS (Or.inl ⟨by rfl, ?_⟩) ?_
          rotate_left
          · intro W hW
            skip
            clear hW
            simp only [List.getElem_cons_zero, List.getElem_cons_succ]
            go_simp
            first | done | with_reducible rfl
          simp only [List.getElem_cons_zero, List.getElem_cons_succ, Act.put, List.setIfInBounds_toArray, List.set_cons_zero, List.set_cons_succ]
          refine take_at 2 (by decide) (v := ?_) (by kernel_rfl) (by kernel_rfl) (by kernel_rfl) (fun _ _ _ h => h) hS (Or.inl ⟨by rfl, ?_⟩) ?_
          rotate_left
          · intro W hW
            skip
            clear hW
            simp only [List.getElem_cons_zero, List.getElem_cons_succ]
            go_simp
            first | done | with_reducible rfl
          simp only [List.getElem_cons_zero, List.getElem_cons_succ, Act.put, List.setIfInBounds_toArray, List.set_cons_zero, List.set_cons_succ]
          refine take_at 3 (by decide) (by kernel_rfl) (by kernel_rfl) (by kernel_rfl) (fun _ _ _ h => h) hS (yieldsIf_load_mid (by rfl) 23 (.tmp 54) rfl g (i * 10) (by first | rfl | simp) [.int .i64 (x).id, .int .i64 (x).fr, .int .i64 (x).too, .int .i64 (x).am, .int .i64 (x).day, .int .i64 (x).ev, .int .i64 (x).an, .int .i64 (x).un, .int .i64 (x).tr, .string (x).tx] _ HMM.out Try.underlying23 rfl (by kernel_rfl)) ?_
          simp only [List.getElem_cons_zero, List.getElem_cons_succ, Act.put, List.setIfInBounds_toArray, List.set_cons_zero, List.set_cons_succ]
          refine take_at 4 (by decide) (by kernel_rfl) (by kernel_rfl) (by kernel_rfl) (fun _ _ _ h => h) hS (yields_load_row (by rfl) 26 (.tmp 9) rfl w.heap.size rfl _ _ _ _ (fun W hW => hW.1.1) Try.underlying26 rfl (by kernel_rfl)) ?_
          simp only [List.getElem_cons_zero, List.getElem_cons_succ, Act.put, List.setIfInBounds_toArray, List.set_cons_zero, List.set_cons_succ]
          refine call_at 5 (by decide) (Pi := (fun v _ => v = .tuple #[.int .i64 (nxV x c), .int .i64 (nxE x c)])) (by kernel_rfl) (by rfl) (by simp only [List.getElem_cons_zero, List.getElem_cons_succ]; go_simp; first | done | rfl | exact ⟨rfl, rfl⟩) (call_one SK.mono hS (HNX.out _ hS)) ?_
          clear hS
          rintro w4 u hS rfl
          simp only [List.getElem_cons_zero, List.getElem_cons_succ, Act.put, List.setIfInBounds_toArray, List.set_cons_zero, List.set_cons_succ]
          refine take_at 6 (by decide) (v := ?_) (by kernel_rfl) (by kernel_rfl) (by kernel_rfl) (fun _ _ _ h => h) hS (Or.inl ⟨by rfl, ?_⟩) ?_
          rotate_left
          · intro W hW
            skip
            clear hW
            simp only [List.getElem_cons_zero, List.getElem_cons_succ]
            go_simp
            first | done | with_reducible rfl
          simp only [List.getElem_cons_zero, List.getElem_cons_succ, Act.put, List.setIfInBounds_toArray, List.set_cons_zero, List.set_cons_succ]
          refine take_at 7 (by decide) (v := ?_) (by kernel_rfl) (by kernel_rfl) (by kernel_rfl) (fun _ _ _ h => h) hS (Or.inl ⟨by rfl, ?_⟩) ?_
          rotate_left
          · intro W hW
            skip
            clear hW
            simp only [List.getElem_cons_zero, List.getElem_cons_succ]
            go_simp
            first | done | with_reducible rfl
          simp only [List.getElem_cons_zero, List.getElem_cons_succ, Act.put, List.setIfInBounds_toArray, List.set_cons_zero, List.set_cons_succ]
          refine take_at 8 (by decide) (v := ?_) (by kernel_rfl) (by kernel_rfl) (by kernel_rfl) (fun _ _ _ h => h) hS (Or.inl ⟨by rfl, ?_⟩) ?_
          rotate_left
          · intro W hW
            skip
            clear hW
            simp only [List.getElem_cons_zero, List.getElem_cons_succ]
            go_simp
            first | done | with_reducible rfl
          simp only [List.getElem_cons_zero, List.getElem_cons_succ, Act.put, List.setIfInBounds_toArray, List.set_cons_zero, List.set_cons_succ]
          refine take_at 9 (by decide) (v := ?_) (by kernel_rfl) (by kernel_rfl) (by kernel_rfl) (fun _ _ _ h => h) hS (Or.inl ⟨by rfl, ?_⟩) ?_
          rotate_left
          · intro W hW
            skip
            clear hW
            simp only [List.getElem_cons_zero, List.getElem_cons_succ]
            go_simp
            first | done | with_reducible rfl
          simp only [List.getElem_cons_zero, List.getElem_cons_succ, Act.put, List.setIfInBounds_toArray, List.set_cons_zero, List.set_cons_succ]
          refine take_at 10 (by decide) (v := ?_) (by kernel_rfl) (by kernel_rfl) (by kernel_rfl) (fun _ _ _ h => h) hS (Or.inl ⟨by rfl, ?_⟩) ?_
          rotate_left
          · intro W hW
            skip
            clear hW
            simp only [List.getElem_cons_zero, List.getElem_cons_succ]
            go_simp
            first | done | with_reducible rfl
          simp only [List.getElem_cons_zero, List.getElem_cons_succ, Act.put, List.setIfInBounds_toArray, List.set_cons_zero, List.set_cons_succ]
          refine wpAnyH_done (by kernel_rfl) ?_ _
          have cw4 := bl2 hS.2 cw3
          have hk4 := hS.1.2
          clear hS cw3 HNX HMM
          obtain ⟨nv, hnv⟩ : ∃ v, v = nxV x c := ⟨_, rfl⟩
          rw [← hnv] at HD2 ⊢
          clear hnv
          by_cases hE : nxE x c = 0
          · have g1 : (nxE x c != 0) = false := by rw [hE]; rfl
            have HL := Lib.hid (HD2.out (fun h => by have := h.2; omega) hE)
            clear HD1 HD2 HD3 hE
            generalize nxE x c = E at *
            have c8 := (oblk_mid hk4 hx) 8 _ rfl
            have f8 : w4.frozen? ⟨g, i * 10 + 8, none⟩ = false := hk4.free _
            have c4 : w4.cell? ⟨g, i * 10 + 4, none⟩ = some (.int .i64 l[i]!.day) := (oblk_mid hk4 hx) 4 _ rfl
            have f4 : w4.frozen? ⟨g, i * 10 + 4, none⟩ = false := hk4.free _
            go_wp2_with fail
            go_ret2
            rw [HF.out, dnR_yes HF.out, HL.out]
            have hk5 : Bk.Blk ((w4.setCell ⟨g, i * 10 + 8, none⟩ (.int .i64 0)).setCell ⟨g, i * 10 + 4, none⟩ (.int .i64 nv)) g ((flat oenc (l.set i { x with tr := 0, day := nv }) ++ X).toArray) 23 := by
              have h1 : Bk.Blk (w4.setCell ⟨g, i * 10 + 8, none⟩ (.int .i64 0)) g ((flat oenc (l.set i { x with tr := 0 }) ++ X).toArray) 23 := by
                rw [← oflat_put { x with tr := 0 } (.int .i64 0) 8 X l i hx (by omega) (by rw [← HX.out]; rfl)]
                exact hk4.set_same
              have h2 := h1.set_same (i := i * 10 + 4) (u := .int .i64 nv)
              rw [oflat_put { x with tr := 0, day := nv } (.int .i64 nv) 4 X _ i (by rw [List.length_set]; exact hx) (by omega) (by rw [getElem!_pos _ i (by rw [List.length_set]; exact hx), List.getElem_set_self]; rfl), List.set_set] at h2
              exact h2
            exact ⟨some ⟨g, 0, none⟩, cp, by first | (rw [List.length_set]; done) | (rw [List.length_set]; rfl), (show OwnR oenc 10 23 _ w.heap.size g cp (l.set i { x with tr := 0, day := nv }) from ⟨by omega, hcm, X, by rw [List.length_set]; exact hX, hk5⟩).row, (cw4.setCell (show w.heap.size ≤ g by omega) _).setCell (show w.heap.size ≤ g by omega) _⟩
          · have g1 : (nxE x c != 0) = true := bne_iff_ne.2 hE
            have HL := Lib.hid (HD3.out (fun h => by have := h.2; omega) hE)
            clear HD1 HD2 HD3 hE
            generalize nxE x c = E at *
            go_wp2_with fail
            refine (del_at w.heap.size g cp i l _ ⟨by omega, hcm, X, hX, hk4⟩ hl hx).mono ?_
            rintro e w5 ⟨rfl, hr5, hb5⟩
            go_wp2_with fail
            go_ret2
            rw [HF.out, dnR_yes HF.out, HL.out]
            exact ⟨_, _, rfl, hr5, cw4.trans hb5⟩
      · have hS0 : SK w3 w.heap.size #[.string c.nm, .slice wa c.wk.length wc, .slice ha c.hol.length hc] 26 g ((flat oenc l ++ X).toArray) 23 w3.drew := ⟨⟨kc.drew, hk.drew⟩, (Below.refl _ _).drew⟩
        have HNX := Lib.hid (fun W (hW : SK w3 w.heap.size #[.string c.nm, .slice wa c.wk.length wc, .slice ha c.hol.length hc] 26 g ((flat oenc l ++ X).toArray) 23 W) => next_any x c wa ha wc hc W (hi.later hW.2) (tx_max hO))
        have HMM := Lib.hid (fun W (hW : SK w3 w.heap.size #[.string c.nm, .slice wa c.wk.length wc, .slice ha c.hol.length hc] 26 g ((flat oenc l ++ X).toArray) 23 W) => (show W.rangeAt g (i * 10) (oenc x) from by have q := oblk_mid hW.1.2 hx; rwa [← HX.out] at q))
        have hlt : i < l.length := hx
        go_upto_region 10 with fail
        clear c8 f8
        refine wp_region_held_drew (S := SK w3 w.heap.size #[.string c.nm, .slice wa c.wk.length wc, .slice ha c.hol.length hc] 26 g ((flat oenc l ++ X).toArray) 23) (by kernel_rfl) hS0 (fun hS => ?_)
        clear hS0 kc hk hi hm
        refine take_at 0 (by decide) (v := ?_) (by kernel_rfl) (by kernel_rfl) (by kernel_rfl) (fun _ _ _ h => h) hS (Or.inl ⟨by rfl, ?_⟩) ?_
        rotate_left
        · intro W hW
          skip
          clear hW
          simp only [List.getElem_cons_zero, List.getElem_cons_succ]
          go_simp
          first | done | with_reducible rfl
        simp only [List.getElem_cons_zero, List.getElem_cons_succ, Act.put, List.setIfInBounds_toArray, List.set_cons_zero, List.set_cons_succ]
        refine take_at 1 (by decide) (v := ?_) (by kernel_rfl) (by kernel_rfl) (by kernel_rfl) (fun _ _ _ h => h) hS (Or.inl ⟨by rfl, ?_⟩) ?_
        rotate_left
        · intro W hW
          skip
          clear hW
          simp only [List.getElem_cons_zero, List.getElem_cons_succ]
          go_simp
          first | done | with_reducible rfl
        simp only [List.getElem_cons_zero, List.getElem_cons_succ, Act.put, List.setIfInBounds_toArray, List.set_cons_zero, List.set_cons_succ]
        refine take_at 2 (by decide) (v := ?_) (by kernel_rfl) (by kernel_rfl) (by kernel_rfl) (fun _ _ _ h => h) hS (Or.inl ⟨by rfl, ?_⟩) ?_
        rotate_left
        · intro W hW
          skip
          clear hW
          simp only [List.getElem_cons_zero, List.getElem_cons_succ]
          go_simp
          first | done | with_reducible rfl
        simp only [List.getElem_cons_zero, List.getElem_cons_succ, Act.put, List.setIfInBounds_toArray, List.set_cons_zero, List.set_cons_succ]
        refine take_at 3 (by decide) (by kernel_rfl) (by kernel_rfl) (by kernel_rfl) (fun _ _ _ h => h) hS (yieldsIf_load_mid (by rfl) 23 (.tmp 54) rfl g (i * 10) (by first | rfl | simp) [.int .i64 (x).id, .int .i64 (x).fr, .int .i64 (x).too, .int .i64 (x).am, .int .i64 (x).day, .int .i64 (x).ev, .int .i64 (x).an, .int .i64 (x).un, .int .i64 (x).tr, .string (x).tx] _ HMM.out Try.underlying23 rfl (by kernel_rfl)) ?_
        simp only [List.getElem_cons_zero, List.getElem_cons_succ, Act.put, List.setIfInBounds_toArray, List.set_cons_zero, List.set_cons_succ]
        refine take_at 4 (by decide) (by kernel_rfl) (by kernel_rfl) (by kernel_rfl) (fun _ _ _ h => h) hS (yields_load_row (by rfl) 26 (.tmp 9) rfl w.heap.size rfl _ _ _ _ (fun W hW => hW.1.1) Try.underlying26 rfl (by kernel_rfl)) ?_
        simp only [List.getElem_cons_zero, List.getElem_cons_succ, Act.put, List.setIfInBounds_toArray, List.set_cons_zero, List.set_cons_succ]
        refine call_at 5 (by decide) (Pi := (fun v _ => v = .tuple #[.int .i64 (nxV x c), .int .i64 (nxE x c)])) (by kernel_rfl) (by rfl) (by simp only [List.getElem_cons_zero, List.getElem_cons_succ]; go_simp; first | done | rfl | exact ⟨rfl, rfl⟩) (call_one SK.mono hS (HNX.out _ hS)) ?_
        clear hS
        rintro w4 u hS rfl
        simp only [List.getElem_cons_zero, List.getElem_cons_succ, Act.put, List.setIfInBounds_toArray, List.set_cons_zero, List.set_cons_succ]
        refine take_at 6 (by decide) (v := ?_) (by kernel_rfl) (by kernel_rfl) (by kernel_rfl) (fun _ _ _ h => h) hS (Or.inl ⟨by rfl, ?_⟩) ?_
        rotate_left
        · intro W hW
          skip
          clear hW
          simp only [List.getElem_cons_zero, List.getElem_cons_succ]
          go_simp
          first | done | with_reducible rfl
        simp only [List.getElem_cons_zero, List.getElem_cons_succ, Act.put, List.setIfInBounds_toArray, List.set_cons_zero, List.set_cons_succ]
        refine take_at 7 (by decide) (v := ?_) (by kernel_rfl) (by kernel_rfl) (by kernel_rfl) (fun _ _ _ h => h) hS (Or.inl ⟨by rfl, ?_⟩) ?_
        rotate_left
        · intro W hW
          skip
          clear hW
          simp only [List.getElem_cons_zero, List.getElem_cons_succ]
          go_simp
          first | done | with_reducible rfl
        simp only [List.getElem_cons_zero, List.getElem_cons_succ, Act.put, List.setIfInBounds_toArray, List.set_cons_zero, List.set_cons_succ]
        refine take_at 8 (by decide) (v := ?_) (by kernel_rfl) (by kernel_rfl) (by kernel_rfl) (fun _ _ _ h => h) hS (Or.inl ⟨by rfl, ?_⟩) ?_
        rotate_left
        · intro W hW
          skip
          clear hW
          simp only [List.getElem_cons_zero, List.getElem_cons_succ]
          go_simp
          first | done | with_reducible rfl
        simp only [List.getElem_cons_zero, List.getElem_cons_succ, Act.put, List.setIfInBounds_toArray, List.set_cons_zero, List.set_cons_succ]
        refine take_at 9 (by decide) (v := ?_) (by kernel_rfl) (by kernel_rfl) (by kernel_rfl) (fun _ _ _ h => h) hS (Or.inl ⟨by rfl, ?_⟩) ?_
        rotate_left
        · intro W hW
          skip
          clear hW
          simp only [List.getElem_cons_zero, List.getElem_cons_succ]
          go_simp
          first | done | with_reducible rfl
        simp only [List.getElem_cons_zero, List.getElem_cons_succ, Act.put, List.setIfInBounds_toArray, List.set_cons_zero, List.set_cons_succ]
        refine take_at 10 (by decide) (v := ?_) (by kernel_rfl) (by kernel_rfl) (by kernel_rfl) (fun _ _ _ h => h) hS (Or.inl ⟨by rfl, ?_⟩) ?_
        rotate_left
        · intro W hW
          skip
          clear hW
          simp only [List.getElem_cons_zero, List.getElem_cons_succ]
          go_simp
          first | done | with_reducible rfl
        simp only [List.getElem_cons_zero, List.getElem_cons_succ, Act.put, List.setIfInBounds_toArray, List.set_cons_zero, List.set_cons_succ]
        refine wpAnyH_done (by kernel_rfl) ?_ _
        have cw4 := bl2 hS.2 cw3
        have hk4 := hS.1.2
        clear hS cw3 HNX HMM
        obtain ⟨nv, hnv⟩ : ∃ v, v = nxV x c := ⟨_, rfl⟩
        rw [← hnv] at HD2 ⊢
        clear hnv
        by_cases hE : nxE x c = 0
        · have g1 : (nxE x c != 0) = false := by rw [hE]; rfl
          have HL := Lib.hid (HD2.out (fun h => by cases h.1) hE)
          clear HD1 HD2 HD3 hE
          generalize nxE x c = E at *
          have c8 := (oblk_mid hk4 hx) 8 _ rfl
          have f8 : w4.frozen? ⟨g, i * 10 + 8, none⟩ = false := hk4.free _
          have c4 : w4.cell? ⟨g, i * 10 + 4, none⟩ = some (.int .i64 l[i]!.day) := (oblk_mid hk4 hx) 4 _ rfl
          have f4 : w4.frozen? ⟨g, i * 10 + 4, none⟩ = false := hk4.free _
          go_wp2_with fail
          go_ret2
          rw [HF.out, dnR_yes HF.out, HL.out]
          have hk5 : Bk.Blk ((w4.setCell ⟨g, i * 10 + 8, none⟩ (.int .i64 0)).setCell ⟨g, i * 10 + 4, none⟩ (.int .i64 nv)) g ((flat oenc (l.set i { x with tr := 0, day := nv }) ++ X).toArray) 23 := by
            have h1 : Bk.Blk (w4.setCell ⟨g, i * 10 + 8, none⟩ (.int .i64 0)) g ((flat oenc (l.set i { x with tr := 0 }) ++ X).toArray) 23 := by
              rw [← oflat_put { x with tr := 0 } (.int .i64 0) 8 X l i hx (by omega) (by rw [← HX.out]; rfl)]
              exact hk4.set_same
            have h2 := h1.set_same (i := i * 10 + 4) (u := .int .i64 nv)
            rw [oflat_put { x with tr := 0, day := nv } (.int .i64 nv) 4 X _ i (by rw [List.length_set]; exact hx) (by omega) (by rw [getElem!_pos _ i (by rw [List.length_set]; exact hx), List.getElem_set_self]; rfl), List.set_set] at h2
            exact h2
          exact ⟨some ⟨g, 0, none⟩, cp, by first | (rw [List.length_set]; done) | (rw [List.length_set]; rfl), (show OwnR oenc 10 23 _ w.heap.size g cp (l.set i { x with tr := 0, day := nv }) from ⟨by omega, hcm, X, by rw [List.length_set]; exact hX, hk5⟩).row, (cw4.setCell (show w.heap.size ≤ g by omega) _).setCell (show w.heap.size ≤ g by omega) _⟩
        · have g1 : (nxE x c != 0) = true := bne_iff_ne.2 hE
          have HL := Lib.hid (HD3.out (fun h => by cases h.1) hE)
          clear HD1 HD2 HD3 hE
          generalize nxE x c = E at *
          go_wp2_with fail
          refine (del_at w.heap.size g cp i l _ ⟨by omega, hcm, X, hX, hk4⟩ hl hx).mono ?_
          rintro e w5 ⟨rfl, hr5, hb5⟩
          go_wp2_with fail
          go_ret2
          rw [HF.out, dnR_yes HF.out, HL.out]
          exact ⟨_, _, rfl, hr5, cw4.trans hb5⟩
end Go.Proofs.Ytdlmoijeflchgaa.So
