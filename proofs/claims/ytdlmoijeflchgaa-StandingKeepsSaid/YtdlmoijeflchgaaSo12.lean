/-
  StandingKeeps: its walk.
-/
import Derived.Test.YtdlmoijeflchgaaSo11
namespace Go.Proofs.Ytdlmoijeflchgaa.So
open Go Go.RowKit
open Go.Proofs.Ytdlmoijeflchgaa
open Go.Proofs.Ytdlmoijeflchgaa.Kl (Cl CalIn)
open Go.Proofs.Ytdlmoijeflchgaa.Ln (flat flat_len RowIn OwnR bl2 Blk_setRow_same Blk_setRow_ne Below_setRow load_guarded)
set_option linter.unusedSimpArgs false
set_option linter.unusedVariables false
set_option maxRecDepth 100000

theorem RowIn.latA {W w1 : World} {a : Option Addr} {xs : List Ac} (hb : Below W.heap.size W w1) (h : RowIn aenc W a xs) : RowIn aenc w1 a xs := h.later hb
theorem others_self (l : List Od) (id : Int) : Others l l id := fun o ho => .inr ho
theorem right_tx {l : List Od} (h : Right l) : ∀ o ∈ l, o.tx.size ≤ maxLen := fun o ho => tx_max (h.ok o ho)
/-- What a call leaves: the list, the error, the number. -/
structure KpO (l m : List Od) (E id : Int) : Prop where
  ok : E = 0 → Right m ∧ Others l m id ∧ Others m l id
theorem kp_add {l : List Od} {o : Od} (h : Right l) : KpO l (adL l o) (adE l o) o.id := ⟨fun e => by rw [adL_yes e]; exact add_keeps h e⟩
theorem kp_can {l : List Od} {id : Int} (h : Right l) : KpO l (caR l id) (caE l id) id := ⟨fun e => by rw [show caR l id = caL l id from if_pos e]; exact cancel_keeps h e⟩
theorem kp_don {l : List Od} {id day : Int} {ok : Bool} {c : Cl} (h : Right l) : KpO l (dnR l id day ok c) (dnE l id day) id := ⟨fun e => by rw [dnR_yes e]; exact done_keeps h e⟩
theorem kp_no {l : List Od} {id : Int} (h : Right l) : KpO l l 0 id := ⟨fun _ => ⟨h, others_self l id, others_self l id⟩⟩
theorem ca_le (l : List Od) (id : Int) : (caR l id).length ≤ l.length := by
  unfold caR
  split
  · exact List.length_eraseIdx_le ..
  · exact Nat.zero_le _
theorem row_box {W : World} {a : Option Addr} {xs : List Od} {gx : Nat} {n0 n1 n2 n4 n5 n6 n7 n8 n9 n10 n11 n12 : Int} {q : Bool} {tx : ByteArray} {u : Value} (h : RowIn oenc W a xs)
    (k : Bk.Blk W gx #[.int .i64 n0, .int .i64 n1, .int .i64 n2, .bool q, .int .i64 n4, .int .i64 n5, .int .i64 n6, .int .i64 n7, .int .i64 n8, .int .i64 n9, .int .i64 n10, .int .i64 n11, .int .i64 n12, .string tx] 39) : RowIn oenc (W.setCell ⟨gx, 1, none⟩ u) a xs := fun h0 => by
  obtain ⟨b, off, ha, hc⟩ := h h0
  obtain ⟨b', off', ha', hr⟩ := row_at h h0
  rw [ha] at ha'
  obtain ⟨rfl, rfl⟩ : b = b' ∧ off = off' := by simpa using ha'
  refine ⟨b, off, ha, fun j v hj => (World.cell?_setCell_other _ _ _ _ ?_).trans (hc j v hj)⟩
  intro he
  obtain ⟨hb, ho⟩ : gx = b ∧ 1 = off + j := by simpa using he
  subst hb
  have hlen : j < xs.length * 10 := by
    have := (List.getElem?_eq_some_iff.1 hj).1
    rwa [flat_len oenc_len] at this
  have hs := hr (j / 10) (by omega) 9 _ rfl
  rw [k.cell] at hs
  have hlt : off + j / 10 * 10 + 9 < 11 := by omega
  have hge : 1 ≤ off + j / 10 * 10 + 9 := by omega
  generalize off + j / 10 * 10 + 9 = n at *
  have : n = 1 ∨ n = 2 ∨ n = 3 ∨ n = 4 ∨ n = 5 ∨ n = 6 ∨ n = 7 ∨ n = 8 ∨ n = 9 ∨ n = 10 := by omega
  rcases this with rfl | rfl | rfl | rfl | rfl | rfl | rfl | rfl | rfl | rfl <;> simp at hs
/-- Where the loop stands. -/
def KpR5 (w w5 : World) (n : Nat) (c : Cl) (wa ha : Option Addr) (wc hc : Nat) (g : Nat) (s0 s7 : Value) (W : World) : Prop := ∃ (i : Nat) (l : List Od) (a : Option Addr) (cp : Nat), i + g = n ∧ s0 = .slice a l.length cp ∧ s7 = .int .i64 i ∧ RowIn oenc W a l ∧ Right l ∧
  Bk.Blk W w.heap.size #[.string c.nm, .slice wa c.wk.length wc, .slice ha c.hol.length hc] 26 ∧ CalIn W c wa ha ∧ Below w.heap.size w W ∧ Below w5.heap.size w5 W
set_option maxHeartbeats 32000000 in
theorem keeps_walk (a : Option Addr) (cap : Nat) (l : List Od) (a2 : Option Addr) (cap2 : Nat) (acts : List Ac) (c : Cl) (wa ha : Option Addr) (wc hc : Nat) (hl : l.length ≤ maxLen) (hl2 : acts.length ≤ maxLen) (w : World) (hr0 : RowIn oenc w a l) (ht : ∀ o ∈ l, o.tx.size ≤ maxLen) (ha0 : RowIn aenc w a2 acts) (hta : ∀ x ∈ acts, x.o.tx.size ≤ maxLen) (h : CalIn w c wa ha) :
    Calls Try.prog 4 #[.slice a l.length cap, .slice a2 acts.length cap2, (.agg #[.string (c).nm, .slice wa (c).wk.length wc, .slice ha (c).hol.length hc])] w fun e w' => e = .returned (.bool true) ∧ Below w.heap.size w w' := by
  have cw : Below w.heap.size w (w.alloc (.cells #[.string c.nm, .slice wa c.wk.length wc, .slice ha c.hol.length hc] 26)) := (Below.refl _ _).alloc (Nat.le_refl _) _
  have kc : Bk.Blk (w.alloc (.cells #[.string c.nm, .slice wa c.wk.length wc, .slice ha c.hol.length hc] 26)) w.heap.size #[.string c.nm, .slice wa c.wk.length wc, .slice ha c.hol.length hc] 26 := Bk.Blk.nw10
  have HCI := Lib.hid h
  have hi := h.later cw
  have hr := hr0.later cw
  have ha2 := ha0.later cw
  have hn0 : c.nm.size ≤ 9223372036854775807 := by have := h.nm; unfold maxLen at this; omega
  have hn1 := h.wk.1
  have hn2 := h.hol.1
  have hl63 : l.length ≤ 9223372036854775807 := by unfold maxLen at hl; omega
  have hl264 : acts.length ≤ 9223372036854775807 := by unfold maxLen at hl2; omega
  clear h hr0 ha0 hl hl2
  go_enter Try.func4, Try.ntmps4
  go_upto_region 1 with fail
  generalize (w.alloc (.cells #[.string c.nm, .slice wa c.wk.length wc, .slice ha c.hol.length hc] 26)) = w1 at *
  have cw1 := cw
  clear cw
  go_wp2_with fail
  refine (great_any a cap l _ hr (by omega) ht).mono ?_
  rintro e w2 ⟨b1, rfl, hg, hb⟩
  replace kc := kc.later hb
  replace hi := hi.later hb
  replace hr := hr.later hb
  replace ha2 := ha2.later hb
  have cw2 := bl2 hb cw1
  clear hb cw1
  cases b1
  · have hlen := hg rfl
    clear hg
    go_wp2_with fail
    refine (short_any a2 cap2 acts _ ha2 (by omega) hta).mono ?_
    rintro e w3 ⟨b2, rfl, hb⟩
    replace kc := kc.later hb
    replace hi := hi.later hb
    replace hr := hr.later hb
    replace ha2 := ha2.later hb
    have cw3 := bl2 hb cw2
    clear hb cw2
    cases b2
    · go_wp2_with fail
      go_ret
      exact ⟨rfl, cw3⟩
    · go_wp2_with (first | (refine wpList_load_row rfl 26 _ rfl _ rfl _ _ _ _ kc Try.underlying26 rfl (by kernel_rfl) ?_) | (refine load_guarded 26 _ rfl rfl _ rfl _ _ _ _ kc Try.underlying26 rfl (by kernel_rfl) ?_))
      refine (light_any c wa ha wc hc _ hn0 hn1 hn2).mono ?_
      rintro e w4 ⟨b3, rfl, hb⟩
      replace kc := kc.later hb
      replace hi := hi.later hb
      replace hr := hr.later hb
      replace ha2 := ha2.later hb
      have cw4 := bl2 hb cw3
      clear hb cw3
      cases b3
      · go_wp2_with fail
        go_ret
        exact ⟨rfl, cw4⟩
      · go_wp2_with fail
        refine (right_any a cap l _ hr (by omega) ht).mono ?_
        rintro e w5 ⟨b4, rfl, hR, hb⟩
        replace kc := kc.later hb
        replace hi := hi.later hb
        replace hr := hr.later hb
        replace ha2 := ha2.later hb
        have cw5 := bl2 hb cw4
        clear hb cw4
        cases b4
        · go_wp2_with fail
          go_ret
          exact ⟨rfl, cw5⟩
        · have hRl := hR.1 rfl
          have HACT := Lib.hid (fun W (hW : Below w5.heap.size w5 W) => RowIn.latA hW ha2)
          have HTA := Lib.hid hta
          have hk5 := kc.lt
          clear hR ha2 hta ht
          go_upto_region 4 with fail
          go_loopg [0, 7] acts.length (KpR5 w w5 acts.length c wa ha wc hc)
          case atStart => exact ⟨0, l, a, cap, by omega, rfl, rfl, hr, hRl, kc, hi, cw5, Below.refl _ _⟩
          case round =>
            clear hr hRl kc hi cw5
            obtain ⟨i, l, a, cap, hig, rfl, rfl, hr, hRl, kc, hi, cwr, hbr⟩ := hrel
            by_cases hlt : i < acts.length
            · obtain ⟨b, off, rfl, hcc⟩ := act_at (HACT.out _ hbr) (by omega)
              have hm := hcc i hlt
              have htx := HTA.out acts[i]! (by rw [getElem!_pos acts _ hlt]; exact List.getElem_mem _)
              generalize acts[i]! = x at *
              clear hcc
              have hlen := hRl.len
              have hbx : Below wr.heap.size wr ((wr.alloc (.cells #[.int .i64 0, .int .i64 0, .int .i64 0, .bool false, .int .i64 0, .int .i64 0, .int .i64 0, .int .i64 0, .int .i64 0, .int .i64 0, .int .i64 0, .int .i64 0, .int .i64 0, .string { data := #[] }] 39)).setRow wr.heap.size (aenc x).toArray) := Below_setRow ((Below.refl _ _).alloc (Nat.le_refl _) _) (Nat.le_refl _) _
              have kx : Bk.Blk ((wr.alloc (.cells #[.int .i64 0, .int .i64 0, .int .i64 0, .bool false, .int .i64 0, .int .i64 0, .int .i64 0, .int .i64 0, .int .i64 0, .int .i64 0, .int .i64 0, .int .i64 0, .int .i64 0, .string { data := #[] }] 39)).setRow wr.heap.size (aenc x).toArray) wr.heap.size #[.int .i64 x.kd, .int .i64 x.id, .int .i64 x.day, .bool x.ok, .int .i64 (x.o).id, .int .i64 (x.o).fr, .int .i64 (x.o).too, .int .i64 (x.o).am, .int .i64 (x.o).day, .int .i64 (x.o).ev, .int .i64 (x.o).an, .int .i64 (x.o).un, .int .i64 (x.o).tr, .string (x.o).tx] 39 := Blk_setRow_same Bk.Blk.nw10
              go_upto_region 7 with (first | (refine wpList_load_mid rfl 39 _ rfl b (off + i * 14) (by first | rfl | simp) (aenc x) _ hm Try.underlying39 rfl (by kernel_rfl) ?_) | (refine wpList_store_row rfl 39 _ _ rfl _ _ rfl rfl _ _ Bk.Blk.nw10 (by kernel_rfl) rfl (all_oneCell_toArray (aenc_one x)) ?_))
              replace kc := kc.later hbx
              replace hi := hi.later hbx
              replace hr := hr.later hbx
              have c6 := bl2 hbx cwr
              have d6 := bl2 hbx hbr
              have hgx := cwr.size
              have hgx5 := hbr.size
              clear hm hbx cwr hbr
              generalize ((wr.alloc (.cells #[.int .i64 0, .int .i64 0, .int .i64 0, .bool false, .int .i64 0, .int .i64 0, .int .i64 0, .int .i64 0, .int .i64 0, .int .i64 0, .int .i64 0, .int .i64 0, .int .i64 0, .string { data := #[] }] 39)).setRow wr.heap.size (aenc x).toArray) = w6 at *
              generalize wr.heap.size = gx at *
              have l0 := kx.c0
              by_cases hk0 : x.kd = 0
              · have k0 : (x.kd == 0) = true := by rw [hk0]; rfl
                clear hk0
                have hmo : w6.rangeAt gx 4 (oenc x.o) := fun j u hj => by
                  rw [kx.cell]
                  have hj10 : j < 10 := (List.getElem?_eq_some_iff.1 hj).1
                  have : j = 0 ∨ j = 1 ∨ j = 2 ∨ j = 3 ∨ j = 4 ∨ j = 5 ∨ j = 6 ∨ j = 7 ∨ j = 8 ∨ j = 9 := by omega
                  rcases this with rfl | rfl | rfl | rfl | rfl | rfl | rfl | rfl | rfl | rfl <;> exact hj
                go_wp2_with (refine wpList_load_mid rfl 23 _ rfl gx 4 (by first | rfl | simp) [.int .i64 (x.o).id, .int .i64 (x.o).fr, .int .i64 (x.o).too, .int .i64 (x.o).am, .int .i64 (x.o).day, .int .i64 (x.o).ev, .int .i64 (x.o).an, .int .i64 (x.o).un, .int .i64 (x.o).tr, .string (x.o).tx] _ hmo Try.underlying23 rfl (by kernel_rfl) ?_)
                clear l0 hmo
                refine (add_any _ cap l x.o _ hr (by omega) htx).mono ?_
                rintro e w7 ⟨am, cm, rfl, hm2, hb⟩
                replace kc := kc.later hb
                replace hi := hi.later hb
                replace hr := hr.later hb
                replace kx := kx.later hb
                have c7 := bl2 hb c6
                have d7 := bl2 hb d6
                have HK := Lib.hid (kp_add (o := x.o) hRl)
                clear hb c6 d6
                generalize adL l x.o = m at *
                generalize adE l x.o = E at *
                clear k0
                have l4 := kx.c4
                have c1 := kx.c1
                have f1 := kx.f1
                have hrs : RowIn oenc (w7.setCell ⟨gx, 1, none⟩ (.int .i64 x.o.id)) a l := row_box hr kx
                have hms : RowIn oenc (w7.setCell ⟨gx, 1, none⟩ (.int .i64 x.o.id)) am m := row_box hm2 kx
                have kxs : Bk.Blk (w7.setCell ⟨gx, 1, none⟩ (.int .i64 x.o.id)) gx #[.int .i64 x.kd, .int .i64 x.o.id, .int .i64 x.day, .bool x.ok, .int .i64 (x.o).id, .int .i64 (x.o).fr, .int .i64 (x.o).too, .int .i64 (x.o).am, .int .i64 (x.o).day, .int .i64 (x.o).ev, .int .i64 (x.o).an, .int .i64 (x.o).un, .int .i64 (x.o).tr, .string (x.o).tx] 39 := kx.set_same (i := 1)
                have hbs : Below w.heap.size w (w7.setCell ⟨gx, 1, none⟩ (.int .i64 x.o.id)) := Below.setCell c7 (p := ⟨gx, 1, none⟩) hgx _
                have hbs5 : Below w5.heap.size w5 (w7.setCell ⟨gx, 1, none⟩ (.int .i64 x.o.id)) := Below.setCell d7 (p := ⟨gx, 1, none⟩) hgx5 _
                have kcs : Bk.Blk (w7.setCell ⟨gx, 1, none⟩ (.int .i64 x.o.id)) w.heap.size #[.string c.nm, .slice wa c.wk.length wc, .slice ha c.hol.length hc] 26 := kc.set_ne (by omega)
                have his : CalIn (w7.setCell ⟨gx, 1, none⟩ (.int .i64 x.o.id)) c wa ha := HCI.out.later hbs
                by_cases hE : E = 0
                · have g1 : (E != 0) = false := by rw [hE]; rfl
                  subst hE
                  obtain ⟨hRm, hO1, hO2⟩ := HK.out.ok rfl
                  clear HK
                  go_wp2_with fail
                  clear l4 c1 f1 hr hm2 kx c7 d7 kc hi
                  have hr := hrs
                  have hm2 := hms
                  have kx := kxs
                  have kc := kcs
                  have hi := his
                  have c8 := hbs
                  have d8 := hbs5
                  clear hrs hms kxs kcs his hbs hbs5
                  generalize (w7.setCell ⟨gx, 1, none⟩ (.int .i64 x.o.id)) = w8 at *
                  refine (right_any am cm m _ hm2 (by have := hRm.len; omega) (right_tx hRm)).mono ?_
                  rintro e v1 ⟨b7, rfl, hb7, hb⟩
                  replace kc := kc.later hb
                  replace hi := hi.later hb
                  replace hr := hr.later hb
                  replace kx := kx.later hb
                  replace hm2 := hm2.later hb
                  have cv1 := bl2 hb c8
                  have dv1 := bl2 hb d8
                  clear hb c8 d8
                  obtain rfl : b7 = true := hb7.2 hRm
                  clear hb7
                  have l1 := kx.c1
                  go_wp2_with fail
                  clear l1
                  refine (others_any _ am _ cm l m x.o.id _ hr hm2 (by omega) (by have := hRm.len; omega) hO1).mono ?_
                  rintro e v2 ⟨rfl, hb⟩
                  replace kc := kc.later hb
                  replace hi := hi.later hb
                  replace hr := hr.later hb
                  replace kx := kx.later hb
                  replace hm2 := hm2.later hb
                  have cv2 := bl2 hb cv1
                  have dv2 := bl2 hb dv1
                  clear hb cv1 dv1
                  have l1 := kx.c1
                  go_wp2_with fail
                  clear l1
                  refine (others_any am _ cm _ m l x.o.id _ hm2 hr (by have := hRm.len; omega) (by omega) hO2).mono ?_
                  rintro e v3 ⟨rfl, hb⟩
                  replace kc := kc.later hb
                  replace hi := hi.later hb
                  replace hr := hr.later hb
                  replace kx := kx.later hb
                  replace hm2 := hm2.later hb
                  have cv3 := bl2 hb cv2
                  have dv3 := bl2 hb dv2
                  clear hb cv2 dv2
                  go_wp2_with fail
                  go_roundg (gk - 1)
                  case measure => omega
                  case rel => exact ⟨i + 1, m, am, cm, by omega, rfl, by go_num, hm2, hRm, kc, hi, cv3, dv3⟩
                · have g1 : (E != 0) = true := bne_iff_ne.2 hE
                  clear HK
                  go_wp2_with fail
                  go_roundg (gk - 1)
                  case measure => omega
                  case rel => exact ⟨i + 1, l, _, _, by omega, rfl, by go_num, hrs, hRl, kcs, his, hbs, hbs5⟩
              · by_cases hk1 : x.kd = 1
                · have k0 : (x.kd == 0) = false := beq_eq_false_iff_ne.2 hk0
                  have k1 : (x.kd == 1) = true := by rw [hk1]; rfl
                  clear hk0 hk1
                  have l1 := kx.c1
                  go_wp2_with fail
                  clear l0 l1
                  refine (cancel_any _ cap l x.id _ hr (by omega)).mono ?_
                  rintro e w7 ⟨am, cm, rfl, hm2, hb⟩
                  replace kc := kc.later hb
                  replace hi := hi.later hb
                  replace hr := hr.later hb
                  replace kx := kx.later hb
                  have c7 := bl2 hb c6
                  have d7 := bl2 hb d6
                  have HK := Lib.hid (kp_can (id := x.id) hRl)
                  clear hb c6 d6
                  generalize caR l x.id = m at *
                  generalize caE l x.id = E at *
                  clear k0 k1
                  by_cases hE : E = 0
                  · have g1 : (E != 0) = false := by rw [hE]; rfl
                    subst hE
                    obtain ⟨hRm, hO1, hO2⟩ := HK.out.ok rfl
                    clear HK
                    go_wp2_with fail
                    refine (right_any am cm m _ hm2 (by have := hRm.len; omega) (right_tx hRm)).mono ?_
                    rintro e v1 ⟨b7, rfl, hb7, hb⟩
                    replace kc := kc.later hb
                    replace hi := hi.later hb
                    replace hr := hr.later hb
                    replace kx := kx.later hb
                    replace hm2 := hm2.later hb
                    have cv1 := bl2 hb c7
                    have dv1 := bl2 hb d7
                    clear hb c7 d7
                    obtain rfl : b7 = true := hb7.2 hRm
                    clear hb7
                    have l1 := kx.c1
                    go_wp2_with fail
                    clear l1
                    refine (others_any _ am _ cm l m x.id _ hr hm2 (by omega) (by have := hRm.len; omega) hO1).mono ?_
                    rintro e v2 ⟨rfl, hb⟩
                    replace kc := kc.later hb
                    replace hi := hi.later hb
                    replace hr := hr.later hb
                    replace kx := kx.later hb
                    replace hm2 := hm2.later hb
                    have cv2 := bl2 hb cv1
                    have dv2 := bl2 hb dv1
                    clear hb cv1 dv1
                    have l1 := kx.c1
                    go_wp2_with fail
                    clear l1
                    refine (others_any am _ cm _ m l x.id _ hm2 hr (by have := hRm.len; omega) (by omega) hO2).mono ?_
                    rintro e v3 ⟨rfl, hb⟩
                    replace kc := kc.later hb
                    replace hi := hi.later hb
                    replace hr := hr.later hb
                    replace kx := kx.later hb
                    replace hm2 := hm2.later hb
                    have cv3 := bl2 hb cv2
                    have dv3 := bl2 hb dv2
                    clear hb cv2 dv2
                    go_wp2_with fail
                    go_roundg (gk - 1)
                    case measure => omega
                    case rel => exact ⟨i + 1, m, am, cm, by omega, rfl, by go_num, hm2, hRm, kc, hi, cv3, dv3⟩
                  · have g1 : (E != 0) = true := bne_iff_ne.2 hE
                    clear HK
                    go_wp2_with fail
                    go_roundg (gk - 1)
                    case measure => omega
                    case rel => exact ⟨i + 1, l, _, _, by omega, rfl, by go_num, hr, hRl, kc, hi, c7, d7⟩
                · by_cases hk2 : x.kd = 2
                  · have k0 : (x.kd == 0) = false := beq_eq_false_iff_ne.2 hk0
                    have k1 : (x.kd == 1) = false := beq_eq_false_iff_ne.2 hk1
                    have k2 : (x.kd == 2) = true := by rw [hk2]; rfl
                    clear hk0 hk1 hk2
                    have l1 := kx.c1
                    have l2 := kx.c2
                    have l3 := kx.c3
                    go_wp2_with (refine wpList_load_row rfl 26 _ rfl _ rfl _ _ _ _ kc Try.underlying26 rfl (by kernel_rfl) ?_)
                    clear l0 l1 l2 l3
                    refine (done_any _ cap l x.id x.day x.ok c wa ha wc hc _ hr (by omega) hRl.ok hi).mono ?_
                    rintro e w7 ⟨am, cm, rfl, hm2, hb⟩
                    replace kc := kc.later hb
                    replace hi := hi.later hb
                    replace hr := hr.later hb
                    replace kx := kx.later hb
                    have c7 := bl2 hb c6
                    have d7 := bl2 hb d6
                    have HK := Lib.hid (kp_don (id := x.id) (day := x.day) (ok := x.ok) (c := c) hRl)
                    clear hb c6 d6
                    generalize dnR l x.id x.day x.ok c = m at *
                    generalize dnE l x.id x.day = E at *
                    clear k0 k1 k2
                    by_cases hE : E = 0
                    · have g1 : (E != 0) = false := by rw [hE]; rfl
                      subst hE
                      obtain ⟨hRm, hO1, hO2⟩ := HK.out.ok rfl
                      clear HK
                      go_wp2_with fail
                      refine (right_any am cm m _ hm2 (by have := hRm.len; omega) (right_tx hRm)).mono ?_
                      rintro e v1 ⟨b7, rfl, hb7, hb⟩
                      replace kc := kc.later hb
                      replace hi := hi.later hb
                      replace hr := hr.later hb
                      replace kx := kx.later hb
                      replace hm2 := hm2.later hb
                      have cv1 := bl2 hb c7
                      have dv1 := bl2 hb d7
                      clear hb c7 d7
                      obtain rfl : b7 = true := hb7.2 hRm
                      clear hb7
                      have l1 := kx.c1
                      go_wp2_with fail
                      clear l1
                      refine (others_any _ am _ cm l m x.id _ hr hm2 (by omega) (by have := hRm.len; omega) hO1).mono ?_
                      rintro e v2 ⟨rfl, hb⟩
                      replace kc := kc.later hb
                      replace hi := hi.later hb
                      replace hr := hr.later hb
                      replace kx := kx.later hb
                      replace hm2 := hm2.later hb
                      have cv2 := bl2 hb cv1
                      have dv2 := bl2 hb dv1
                      clear hb cv1 dv1
                      have l1 := kx.c1
                      go_wp2_with fail
                      clear l1
                      refine (others_any am _ cm _ m l x.id _ hm2 hr (by have := hRm.len; omega) (by omega) hO2).mono ?_
                      rintro e v3 ⟨rfl, hb⟩
                      replace kc := kc.later hb
                      replace hi := hi.later hb
                      replace hr := hr.later hb
                      replace kx := kx.later hb
                      replace hm2 := hm2.later hb
                      have cv3 := bl2 hb cv2
                      have dv3 := bl2 hb dv2
                      clear hb cv2 dv2
                      go_wp2_with fail
                      go_roundg (gk - 1)
                      case measure => omega
                      case rel => exact ⟨i + 1, m, am, cm, by omega, rfl, by go_num, hm2, hRm, kc, hi, cv3, dv3⟩
                    · have g1 : (E != 0) = true := bne_iff_ne.2 hE
                      clear HK
                      go_wp2_with fail
                      go_roundg (gk - 1)
                      case measure => omega
                      case rel => exact ⟨i + 1, l, _, _, by omega, rfl, by go_num, hr, hRl, kc, hi, c7, d7⟩
                  · have k0 : (x.kd == 0) = false := beq_eq_false_iff_ne.2 hk0
                    have k1 : (x.kd == 1) = false := beq_eq_false_iff_ne.2 hk1
                    have k2 : (x.kd == 2) = false := beq_eq_false_iff_ne.2 hk2
                    clear hk0 hk1 hk2
                    have HK := Lib.hid (kp_no (id := x.id) hRl)
                    have hm2 := hr
                    clear HK hm2
                    go_wp2_with fail
                    clear l0 k0 k1 k2
                    refine (right_any a cap l _ hr (by omega) (right_tx hRl)).mono ?_
                    rintro e v1 ⟨b7, rfl, hb7, hb⟩
                    replace kc := kc.later hb
                    replace hi := hi.later hb
                    replace hr := hr.later hb
                    replace kx := kx.later hb
                    have cv1 := bl2 hb c6
                    have dv1 := bl2 hb d6
                    clear hb c6 d6
                    obtain rfl : b7 = true := hb7.2 hRl
                    clear hb7
                    have l1 := kx.c1
                    go_wp2_with fail
                    clear l1
                    refine (others_any a a cap cap l l x.id _ hr hr (by omega) (by omega) (others_self _ _)).mono ?_
                    rintro e v2 ⟨rfl, hb⟩
                    replace kc := kc.later hb
                    replace hi := hi.later hb
                    replace hr := hr.later hb
                    replace kx := kx.later hb
                    have cv2 := bl2 hb cv1
                    have dv2 := bl2 hb dv1
                    clear hb cv1 dv1
                    have l1 := kx.c1
                    go_wp2_with fail
                    clear l1
                    refine (others_any a a cap cap l l x.id _ hr hr (by omega) (by omega) (others_self _ _)).mono ?_
                    rintro e v3 ⟨rfl, hb⟩
                    replace kc := kc.later hb
                    replace hi := hi.later hb
                    replace hr := hr.later hb
                    replace kx := kx.later hb
                    have cv3 := bl2 hb cv2
                    have dv3 := bl2 hb dv2
                    clear hb cv2 dv2
                    go_wp2_with fail
                    go_roundg (gk - 1)
                    case measure => omega
                    case rel => exact ⟨i + 1, l, a, cap, by omega, rfl, by go_num, hr, hRl, kc, hi, cv3, dv3⟩
            · go_wp2_with fail
              refine (live_any _).mono ?_
              rintro e wl ⟨rfl, hb⟩
              have cwl := bl2 hb cwr
              go_wp2_with fail
              go_ret
              exact ⟨rfl, cwl⟩
  · go_wp2_with fail
    go_ret
    exact ⟨rfl, cw2⟩
end Go.Proofs.Ytdlmoijeflchgaa.So
