/-
  ScheduleRepays, ScheduleLevel: their walks.
-/
import Derived.Test.YtmdjikmpgckpbaaDoorSk7
namespace Go.Proofs.YtmdjikmpgckpbaaDoor.Kl
open Go Go.RowKit
open Go.Proofs.YtmdjikmpgckpbaaDoor
open Go.Proofs.YtmdjikmpgckpbaaDoor.Ln (Tm Du DuesIn take_at one_at call_at value_wp yields_load_row call_one call_pv call_pk)
open Go.Proofs.YtmdjikmpgckpbaaDoor.An (intr)
set_option linter.unusedSimpArgs false
set_option linter.unusedVariables false
set_option maxRecDepth 100000

/-- What holds of each installment. -/
theorem rep_at {t : Tm} {c : Cl} (h : blE t c = 0) {i : Nat} (hi : i < t.ct.toNat) : (blV t c)[i]! = duAt t c i ∧ (0 ≤ (duAt t c i).pr ∧ (duAt t c i).pr ≤ lf t (payV t) i) ∧ (0 ≤ (duAt t c i).it ∧ (duAt t c i).it ≤ 1000000000000) ∧ rsW t.pr (blV t c) i = lf t (payV t) i ∧ (0 ≤ lf t (payV t) i ∧ lf t (payV t) i ≤ 1000000000000) ∧ lf t (payV t) (i + 1) = lf t (payV t) i - (duAt t c i).pr ∧ (duAt t c i).no = (i : Int) + 1 := by
  obtain ⟨_, ht, hd, hp, _⟩ := bl_facts h
  have hb := lf_bd ht (ht.pay hp).1 i
  have hpr := ht.pr
  have hd := due_bd h hi
  refine ⟨?_, ⟨hb.2.1, hb.2.2⟩, hd.2.2, rs_bl h (by omega), ⟨hb.1.1, by omega⟩, lf_succ .., rfl⟩
  rw [blV_ok h, bList_get hi]
theorem rep_day {t : Tm} {c : Cl} (h : blE t c = 0) {i : Nat} (hi : i + 1 < t.ct.toNat) : (duAt t c i).day ≤ (duAt t c (i + 1)).day := by
  obtain ⟨_, ht, hd, hp, _⟩ := bl_facts h
  have := dV_mono ht (c := c) (i := (i : Int) + 1) (by omega) (hd i (by omega)) (by have := hd (i + 1) hi; rwa [Int.natCast_add] at this)
  show dV t c _ ≤ dV t c _
  rw [Int.natCast_add]
  exact this
/-- Where the loops stand. -/
def RpR (w : World) (t : Tm) (n : Nat) (g : Nat) (s7 s8 : Value) (W : World) : Prop := ∃ k : Nat, k + g = n ∧ s8 = .int .i64 k ∧ s7 = .int .i64 (lf t (payV t) k) ∧ Below w.heap.size w W
set_option maxHeartbeats 16000000 in
theorem repays_walk (t : Tm) (c : Cl) (wa ha : Option Addr) (wc hc : Nat) (hcu : t.cur.size ≤ maxLen) (w : World) (h : CalIn w c wa ha) (hs : Rd.Stp w) : Calls Tryd.prog 7 #[(.agg #[.int .i64 (t).me, .int .i64 (t).pr, .int .i64 (t).ppm, .int .i64 (t).stt, .int .i64 (t).ev, .int .i64 (t).ct, .int .i64 (t).ba, .int .i64 (t).mo, .int .i64 (t).pen, .int .i64 (t).fe, .string (t).cal, .string (t).cur]), (.agg #[.string (c).nm, .slice wa (c).wk.length wc, .slice ha (c).hol.length hc])] w fun e w' => e = .returned (.bool true) ∧ Below w.heap.size w w' := by
  have cw : Below w.heap.size w ((w.alloc (.cells #[.int .i64 (t).me, .int .i64 (t).pr, .int .i64 (t).ppm, .int .i64 (t).stt, .int .i64 (t).ev, .int .i64 (t).ct, .int .i64 (t).ba, .int .i64 (t).mo, .int .i64 (t).pen, .int .i64 (t).fe, .string (t).cal, .string (t).cur] 23)).alloc (.cells #[.string c.nm, .slice wa c.wk.length wc, .slice ha c.hol.length hc] 26)) := ((Below.refl _ _).alloc (Nat.le_refl _) _).alloc (by simp) _
  have kt : Bk.Blk ((w.alloc (.cells #[.int .i64 (t).me, .int .i64 (t).pr, .int .i64 (t).ppm, .int .i64 (t).stt, .int .i64 (t).ev, .int .i64 (t).ct, .int .i64 (t).ba, .int .i64 (t).mo, .int .i64 (t).pen, .int .i64 (t).fe, .string (t).cal, .string (t).cur] 23)).alloc (.cells #[.string c.nm, .slice wa c.wk.length wc, .slice ha c.hol.length hc] 26)) w.heap.size #[.int .i64 (t).me, .int .i64 (t).pr, .int .i64 (t).ppm, .int .i64 (t).stt, .int .i64 (t).ev, .int .i64 (t).ct, .int .i64 (t).ba, .int .i64 (t).mo, .int .i64 (t).pen, .int .i64 (t).fe, .string (t).cal, .string (t).cur] 23 := Bk.Blk.nw20
  have kc : Bk.Blk ((w.alloc (.cells #[.int .i64 (t).me, .int .i64 (t).pr, .int .i64 (t).ppm, .int .i64 (t).stt, .int .i64 (t).ev, .int .i64 (t).ct, .int .i64 (t).ba, .int .i64 (t).mo, .int .i64 (t).pen, .int .i64 (t).fe, .string (t).cal, .string (t).cur] 23)).alloc (.cells #[.string c.nm, .slice wa c.wk.length wc, .slice ha c.hol.length hc] 26)) (w.heap.size + 1) #[.string c.nm, .slice wa c.wk.length wc, .slice ha c.hol.length hc] 26 := Bk.Blk.nw21
  have hi := h.later cw
  have hS := hs.of cw
  have hn1 := h.wk.1
  have hn2 := h.hol.1
  clear h hs
  go_enter Tryd.func7, Tryd.ntmps7
  go_upto_region 1 with fail
  generalize ((w.alloc (.cells #[.int .i64 (t).me, .int .i64 (t).pr, .int .i64 (t).ppm, .int .i64 (t).stt, .int .i64 (t).ev, .int .i64 (t).ct, .int .i64 (t).ba, .int .i64 (t).mo, .int .i64 (t).pen, .int .i64 (t).fe, .string (t).cal, .string (t).cur] 23)).alloc (.cells #[.string c.nm, .slice wa c.wk.length wc, .slice ha c.hol.length hc] 26)) = w1 at *
  have cw1 := cw
  clear cw
  have l0 := kt.c0
  have l1 := kt.c1
  have l2 := kt.c2
  have l3 := kt.c3
  have l4 := kt.c4
  have l5 := kt.c5
  have l6 := kt.c6
  have l7 := kt.c7
  have l8 := kt.c8
  have l9 := kt.c9
  have l10 := kt.c10
  have l11 := kt.c11
  have m0 := kc.c0
  have m1 := kc.c1
  have m2 := kc.c2
  go_wp2_with fail
  clear l0 l1 l2 l3 l4 l5 l6 l7 l8 l9 l10 l11 m0 m1 m2
  refine (few_any t c wa ha wc hc _ hn1 hn2).mono ?_
  rintro e w2 ⟨b, rfl, hb⟩
  replace kt := kt.later hb
  replace kc := kc.later hb
  replace hi := hi.later hb
  replace hS := hS.of hb
  have cw2 := bl2 hb cw1
  clear hb cw1
  cases b
  · go_wp2_with fail
    refine (lives_any _ hS).mono ?_
    rintro e wl ⟨rfl, hb⟩
    have cwl := bl2 hb cw2
    clear hb cw2
    go_wp2_with fail
    go_ret
    exact ⟨rfl, cwl⟩
  · have l0 := kt.c0
    have l1 := kt.c1
    have l2 := kt.c2
    have l3 := kt.c3
    have l4 := kt.c4
    have l5 := kt.c5
    have l6 := kt.c6
    have l7 := kt.c7
    have l8 := kt.c8
    have l9 := kt.c9
    have l10 := kt.c10
    have l11 := kt.c11
    have m0 := kc.c0
    have m1 := kc.c1
    have m2 := kc.c2
    go_wp2_with fail
    clear l0 l1 l2 l3 l4 l5 l6 l7 l8 l9 l10 l11 m0 m1 m2
    refine (build_any t c wa ha wc hc _ hi hcu hS).mono ?_
    rintro e w3 ⟨da, dc, rfl, hd, _, hb⟩
    replace kt := kt.later hb
    replace kc := kc.later hb
    replace hi := hi.later hb
    replace hS := hS.of hb
    have cw3 := bl2 hb cw2
    clear hb cw2
    by_cases he : blE t c ≠ 0
    · have hv : blV t c = [] := if_neg he
      have g1 : (blE t c != 0) = true := by simpa using he
      rw [hv]
      generalize blE t c = E at g1 ⊢
      clear hd hv he
      go_wp2_with fail
      refine (lives_any _ hS).mono ?_
      rintro e wl ⟨rfl, hb⟩
      have cwl := bl2 hb cw3
      clear hb cw3
      go_wp2_with fail
      go_ret
      exact ⟨rfl, cwl⟩
    · have he0 : blE t c = 0 := Classical.byContradiction he
      have g1 : (blE t c != 0) = false := by rw [he0]; rfl
      have HE := Lib.hid he0
      obtain ⟨_, htk, _, _, _⟩ := bl_facts he0
      have hpr := htk.pr
      have hct := htk.ct
      have hlen := bl_len he0
      have HEND := Lib.hid (lf_end htk (payV t))
      clear he he0 htk
      generalize blE t c = E at g1 ⊢
      have HDAT := Lib.hid (fun (k : Nat) (hk : k < t.ct.toNat) => rep_at HE.out hk)
      have HDAY := Lib.hid (fun (k : Nat) (hk : k + 1 < t.ct.toNat) => rep_day HE.out hk)
      obtain ⟨ls, hls⟩ : ∃ ls, ls = blV t c := ⟨_, rfl⟩
      rw [← hls] at hd hlen ⊢
      have HLS := Lib.hid hls
      clear hls
      obtain ⟨n, hnn⟩ : ∃ n, n = t.ct.toNat := ⟨_, rfl⟩
      rw [← hnn] at hlen
      have hn1 : (n : Int) ≤ t.ct := by omega
      have hn2 : t.ct ≤ n := by omega
      have HNN := Lib.hid hnn
      clear hnn
      rw [hlen]
      have HLEN := Lib.hid hlen
      clear hlen
      have l1 := kt.c1
      go_wp2_with fail
      clear l1
      go_loopg [7, 8] n (RpR w3 t n)
      case atStart => exact ⟨0, by omega, rfl, rfl, Below.refl _ _⟩
      case round =>
        obtain ⟨k, hk, rfl, rfl, cwr⟩ := hrel
        replace kt := kt.later cwr
        replace hS := hS.of cwr
        replace hd := hd.later cwr
        by_cases hlt : k < n
        · have hj : k < t.ct.toNat := by have := HNN.out; omega
          obtain ⟨x1, x2, x3, x4, x5, x6, x7⟩ := HDAT.out k hj
          rw [← HLS.out] at x1 x4
          obtain ⟨bb, off, hae, hcc⟩ := hd.2 (by rw [HLEN.out]; omega)
          have hck := hcc k (by rw [HLEN.out]; omega)
          rw [x1] at hck
          have hpd : 0 < k → ∃ y, wr.cell? ⟨bb, off + (k - 1) * 4 + 1, none⟩ = some (.int .i64 y) ∧ y ≤ (duAt t c k).day := by
            intro hk0
            obtain ⟨y1, _⟩ := HDAT.out (k - 1) (by omega)
            rw [← HLS.out] at y1
            have hc1 := (hcc (k - 1) (by rw [HLEN.out]; omega)).2.1
            rw [y1] at hc1
            have hdm := HDAY.out (k - 1) (by omega)
            rw [show k - 1 + 1 = k by omega] at hdm
            exact ⟨_, hc1, hdm⟩
          have HRS := Lib.hid x4
          have HL1 := Lib.hid x6
          clear hcc x4 x6 x1
          obtain ⟨c0, c1, c2, c3⟩ := hck
          have hRR := fun W (hW : Below wr.heap.size wr W) => srest_any t da dc ls k W (hd.later hW) (Ln.wrap_in (by omega) (by omega))
          have HRR := Lib.hid hRR
          clear hRR
          generalize duAt t c k = d at *
          obtain ⟨dno, dday, dpr, dit⟩ := d
          simp only [] at *
          generalize hlf : lf t (payV t) k = left at x2 x5 HRS HL1 ⊢
          have HLF := Lib.hid hlf
          clear hlf
          rw [HRS.out, HLEN.out] at HRR
          subst hae
          subst x7
          have hw1 : IntKind.i64.wrap ((k : Int) + 1) = (k : Int) + 1 := by rw [IntKind.wrap_i64]; omega
          have f1 : decide (dpr < 0) = false := decide_eq_false (by omega)
          have f2 : decide (dit < 0) = false := decide_eq_false (by omega)
          have f3 : decide (left < dpr) = false := decide_eq_false (by omega)
          have hbq : Below wr.heap.size wr (wr.alloc (.cells #[.int .i64 ((k : Int) + 1), .int .i64 dday, .int .i64 dpr, .int .i64 dit] 44)) := (Below.refl _ _).alloc (Nat.le_refl _) _
          have hkq : Bk.Blk (wr.alloc (.cells #[.int .i64 ((k : Int) + 1), .int .i64 dday, .int .i64 dpr, .int .i64 dit] 44)) wr.heap.size #[.int .i64 ((k : Int) + 1), .int .i64 dday, .int .i64 dpr, .int .i64 dit] 44 := Bk.Blk.nw10
          go_upto_region 11 with fail
          generalize (wr.alloc (.cells #[.int .i64 ((k : Int) + 1), .int .i64 dday, .int .i64 dpr, .int .i64 dit] 44)) = wq at *
          have hktq := kt.later hbq
          have cwq := Ln.bl2 hbq cwr
          have HRW := Lib.hid (fun W (hW : SK wq w.heap.size #[.int .i64 (t).me, .int .i64 (t).pr, .int .i64 (t).ppm, .int .i64 (t).stt, .int .i64 (t).ev, .int .i64 (t).ct, .int .i64 (t).ba, .int .i64 (t).mo, .int .i64 (t).pen, .int .i64 (t).fe, .string (t).cal, .string (t).cur] 23 wr.heap.size #[.int .i64 ((k : Int) + 1), .int .i64 dday, .int .i64 dpr, .int .i64 dit] 44 W) => HRR.out W (Ln.bl2 hW.2 hbq))
          have hSt := Lib.hid (hS.of hbq)
          have hd' := hd.later hbq
          have HCY := Lib.hid (fun (hk0 : 0 < k) => let ⟨y, hy, hle⟩ := hpd hk0; (⟨y, hle, fun W (hW : SK wq w.heap.size #[.int .i64 (t).me, .int .i64 (t).pr, .int .i64 (t).ppm, .int .i64 (t).stt, .int .i64 (t).ev, .int .i64 (t).ct, .int .i64 (t).ba, .int .i64 (t).mo, .int .i64 (t).pen, .int .i64 (t).fe, .string (t).cal, .string (t).cur] 23 wr.heap.size #[.int .i64 ((k : Int) + 1), .int .i64 dday, .int .i64 dpr, .int .i64 dit] 44 W) => cell_later hW.2 (cell_later hbq hy)⟩ : ∃ y : Int, y ≤ dday ∧ ∀ W, SK wq w.heap.size #[.int .i64 (t).me, .int .i64 (t).pr, .int .i64 (t).ppm, .int .i64 (t).stt, .int .i64 (t).ev, .int .i64 (t).ct, .int .i64 (t).ba, .int .i64 (t).mo, .int .i64 (t).pen, .int .i64 (t).fe, .string (t).cal, .string (t).cur] 23 wr.heap.size #[.int .i64 ((k : Int) + 1), .int .i64 dday, .int .i64 dpr, .int .i64 dit] 44 W → W.cell? ⟨bb, off + (k - 1) * 4 + 1, none⟩ = some (Value.int .i64 y)))
          clear hpd c0 c1 c2 c3 HRR hS hd hktq
          by_cases hk0 : k = 0
          · have f4 : decide (0 < (k : Int)) = false := decide_eq_false (by omega)
            clear HCY
            have hS0 : SK wq w.heap.size #[.int .i64 (t).me, .int .i64 (t).pr, .int .i64 (t).ppm, .int .i64 (t).stt, .int .i64 (t).ev, .int .i64 (t).ct, .int .i64 (t).ba, .int .i64 (t).mo, .int .i64 (t).pen, .int .i64 (t).fe, .string (t).cal, .string (t).cur] 23 wr.heap.size #[.int .i64 ((k : Int) + 1), .int .i64 dday, .int .i64 dpr, .int .i64 dit] 44 wq.drew := ⟨⟨(kt.later hbq).drew, hkq.drew⟩, (Below.refl _ _).drew⟩
            refine wp_region_held_drew (S := SK wq w.heap.size #[.int .i64 (t).me, .int .i64 (t).pr, .int .i64 (t).ppm, .int .i64 (t).stt, .int .i64 (t).ev, .int .i64 (t).ct, .int .i64 (t).ba, .int .i64 (t).mo, .int .i64 (t).pen, .int .i64 (t).fe, .string (t).cal, .string (t).cur] 23 wr.heap.size #[.int .i64 ((k : Int) + 1), .int .i64 dday, .int .i64 dpr, .int .i64 dit] 44) (by kernel_rfl) hS0 (fun hS => ?_)
            clear hS0
            refine take_at 0 (by decide) (v := ?_) (by kernel_rfl) (by kernel_rfl) (by kernel_rfl) (fun _ _ _ h => h) hS (Or.inl ⟨by rfl, ?_⟩) ?_
            rotate_left
            · intro W hW
              skip
              clear hW
              simp only [List.getElem_cons_zero, List.getElem_cons_succ]
              go_simp
              first | done | with_reducible rfl
            simp only [List.getElem_cons_zero, List.getElem_cons_succ, Act.put, List.setIfInBounds_toArray, List.set_cons_zero, List.set_cons_succ]
            refine take_at 1 (by decide) (v := ?_) (by kernel_rfl) (by kernel_rfl) (by kernel_rfl) (fun _ _ _ h => h) hS (Or.inl ⟨by rfl, ?_⟩) ?_
            rotate_left
            · intro W hW
              have e0 := hW.1.2.c0; have e1 := hW.1.2.c1; have e2 := hW.1.2.c2; have e3 := hW.1.2.c3
              clear hW
              simp only [List.getElem_cons_zero, List.getElem_cons_succ]
              go_simp
              first | done | with_reducible rfl
            simp only [List.getElem_cons_zero, List.getElem_cons_succ, Act.put, List.setIfInBounds_toArray, List.set_cons_zero, List.set_cons_succ]
            refine take_at 2 (by decide) (v := ?_) (by kernel_rfl) (by kernel_rfl) (by kernel_rfl) (fun _ _ _ h => h) hS (Or.inl ⟨by rfl, ?_⟩) ?_
            rotate_left
            · intro W hW
              skip
              clear hW
              simp only [List.getElem_cons_zero, List.getElem_cons_succ]
              go_simp
              first | done | with_reducible rfl
            simp only [List.getElem_cons_zero, List.getElem_cons_succ, Act.put, List.setIfInBounds_toArray, List.set_cons_zero, List.set_cons_succ]
            refine take_at 3 (by decide) (v := ?_) (by kernel_rfl) (by kernel_rfl) (by kernel_rfl) (fun _ _ _ h => h) hS (Or.inl ⟨by rfl, ?_⟩) ?_
            rotate_left
            · intro W hW
              skip
              clear hW
              simp only [List.getElem_cons_zero, List.getElem_cons_succ]
              go_simp
              first | done | with_reducible rfl
            simp only [List.getElem_cons_zero, List.getElem_cons_succ, Act.put, List.setIfInBounds_toArray, List.set_cons_zero, List.set_cons_succ]
            refine take_at 4 (by decide) (v := ?_) (by kernel_rfl) (by kernel_rfl) (by kernel_rfl) (fun _ _ _ h => h) hS (Or.inl ⟨by rfl, ?_⟩) ?_
            rotate_left
            · intro W hW
              skip
              clear hW
              simp only [List.getElem_cons_zero, List.getElem_cons_succ]
              go_simp
              first | done | with_reducible rfl
            simp only [List.getElem_cons_zero, List.getElem_cons_succ, Act.put, List.setIfInBounds_toArray, List.set_cons_zero, List.set_cons_succ]
            refine take_at 5 (by decide) (v := ?_) (by kernel_rfl) (by kernel_rfl) (by kernel_rfl) (fun _ _ _ h => h) hS (Or.inl ⟨by rfl, ?_⟩) ?_
            rotate_left
            · intro W hW
              skip
              clear hW
              simp only [List.getElem_cons_zero, List.getElem_cons_succ]
              go_simp
              first | done | with_reducible rfl
            simp only [List.getElem_cons_zero, List.getElem_cons_succ, Act.put, List.setIfInBounds_toArray, List.set_cons_zero, List.set_cons_succ]
            refine take_at 6 (by decide) (v := ?_) (by kernel_rfl) (by kernel_rfl) (by kernel_rfl) (fun _ _ _ h => h) hS (Or.inl ⟨by rfl, ?_⟩) ?_
            rotate_left
            · intro W hW
              skip
              clear hW
              simp only [List.getElem_cons_zero, List.getElem_cons_succ]
              go_simp
              first | done | with_reducible rfl
            simp only [List.getElem_cons_zero, List.getElem_cons_succ, Act.put, List.setIfInBounds_toArray, List.set_cons_zero, List.set_cons_succ]
            refine take_at 7 (by decide) (v := ?_) (by kernel_rfl) (by kernel_rfl) (by kernel_rfl) (fun _ _ _ h => h) hS (Or.inl ⟨by rfl, ?_⟩) ?_
            rotate_left
            · intro W hW
              have e0 := hW.1.2.c0; have e1 := hW.1.2.c1; have e2 := hW.1.2.c2; have e3 := hW.1.2.c3
              clear hW
              simp only [List.getElem_cons_zero, List.getElem_cons_succ]
              go_simp
              first | done | with_reducible rfl
            simp only [List.getElem_cons_zero, List.getElem_cons_succ, Act.put, List.setIfInBounds_toArray, List.set_cons_zero, List.set_cons_succ]
            refine take_at 8 (by decide) (v := ?_) (by kernel_rfl) (by kernel_rfl) (by kernel_rfl) (fun _ _ _ h => h) hS (Or.inl ⟨by rfl, ?_⟩) ?_
            rotate_left
            · intro W hW
              skip
              clear hW
              simp only [List.getElem_cons_zero, List.getElem_cons_succ]
              go_simp
              first | done | with_reducible rfl
            simp only [List.getElem_cons_zero, List.getElem_cons_succ, Act.put, List.setIfInBounds_toArray, List.set_cons_zero, List.set_cons_succ]
            refine take_at 9 (by decide) (v := ?_) (by kernel_rfl) (by kernel_rfl) (by kernel_rfl) (fun _ _ _ h => h) hS (Or.inl ⟨by rfl, ?_⟩) ?_
            rotate_left
            · intro W hW
              skip
              clear hW
              simp only [List.getElem_cons_zero, List.getElem_cons_succ]
              go_simp
              first | done | with_reducible rfl
            simp only [List.getElem_cons_zero, List.getElem_cons_succ, Act.put, List.setIfInBounds_toArray, List.set_cons_zero, List.set_cons_succ]
            refine take_at 10 (by decide) (v := ?_) (by kernel_rfl) (by kernel_rfl) (by kernel_rfl) (fun _ _ _ h => h) hS (Or.inl ⟨by rfl, ?_⟩) ?_
            rotate_left
            · intro W hW
              skip
              clear hW
              simp only [List.getElem_cons_zero, List.getElem_cons_succ]
              go_simp
              first | done | with_reducible rfl
            simp only [List.getElem_cons_zero, List.getElem_cons_succ, Act.put, List.setIfInBounds_toArray, List.set_cons_zero, List.set_cons_succ]
            refine take_at 11 (by decide) (v := ?_) (by kernel_rfl) (by kernel_rfl) (by kernel_rfl) (fun _ _ _ h => h) hS (Or.inl ⟨by rfl, ?_⟩) ?_
            rotate_left
            · intro W hW
              skip
              clear hW
              simp only [List.getElem_cons_zero, List.getElem_cons_succ]
              go_simp
              first | done | with_reducible rfl
            simp only [List.getElem_cons_zero, List.getElem_cons_succ, Act.put, List.setIfInBounds_toArray, List.set_cons_zero, List.set_cons_succ]
            refine take_at 12 (by decide) (v := ?_) (by kernel_rfl) (by kernel_rfl) (by kernel_rfl) (fun _ _ _ h => h) hS (Or.inl ⟨by rfl, ?_⟩) ?_
            rotate_left
            · intro W hW
              have e0 := hW.1.2.c0; have e1 := hW.1.2.c1; have e2 := hW.1.2.c2; have e3 := hW.1.2.c3
              clear hW
              simp only [List.getElem_cons_zero, List.getElem_cons_succ]
              go_simp
              first | done | with_reducible rfl
            simp only [List.getElem_cons_zero, List.getElem_cons_succ, Act.put, List.setIfInBounds_toArray, List.set_cons_zero, List.set_cons_succ]
            refine take_at 13 (by decide) (v := ?_) (by kernel_rfl) (by kernel_rfl) (by kernel_rfl) (fun _ _ _ h => h) hS (Or.inl ⟨by rfl, ?_⟩) ?_
            rotate_left
            · intro W hW
              skip
              clear hW
              simp only [List.getElem_cons_zero, List.getElem_cons_succ]
              go_simp
              first | done | with_reducible rfl
            simp only [List.getElem_cons_zero, List.getElem_cons_succ, Act.put, List.setIfInBounds_toArray, List.set_cons_zero, List.set_cons_succ]
            refine take_at 14 (by decide) (v := ?_) (by kernel_rfl) (by kernel_rfl) (by kernel_rfl) (fun _ _ _ h => h) hS (Or.inl ⟨by rfl, ?_⟩) ?_
            rotate_left
            · intro W hW
              skip
              clear hW
              simp only [List.getElem_cons_zero, List.getElem_cons_succ]
              go_simp
              first | done | with_reducible rfl
            simp only [List.getElem_cons_zero, List.getElem_cons_succ, Act.put, List.setIfInBounds_toArray, List.set_cons_zero, List.set_cons_succ]
            refine take_at 15 (by decide) (v := ?_) (by kernel_rfl) (by kernel_rfl) (by kernel_rfl) (fun _ _ _ h => h) hS (Or.inl ⟨by rfl, ?_⟩) ?_
            rotate_left
            · intro W hW
              skip
              clear hW
              simp only [List.getElem_cons_zero, List.getElem_cons_succ]
              go_simp
              first | done | with_reducible rfl
            simp only [List.getElem_cons_zero, List.getElem_cons_succ, Act.put, List.setIfInBounds_toArray, List.set_cons_zero, List.set_cons_succ]
            refine take_at 16 (by decide) (v := ?_) (by kernel_rfl) (by kernel_rfl) (by kernel_rfl) (fun _ _ _ h => h) hS (Or.inl ⟨by rfl, ?_⟩) ?_
            rotate_left
            · intro W hW
              skip
              clear hW
              simp only [List.getElem_cons_zero, List.getElem_cons_succ]
              go_simp
              first | done | with_reducible rfl
            simp only [List.getElem_cons_zero, List.getElem_cons_succ, Act.put, List.setIfInBounds_toArray, List.set_cons_zero, List.set_cons_succ]
            refine take_at 17 (by decide) (v := ?_) (by kernel_rfl) (by kernel_rfl) (by kernel_rfl) (fun _ _ _ h => h) hS (Or.inl ⟨by rfl, ?_⟩) ?_
            rotate_left
            · intro W hW
              have e0 := hW.1.2.c0; have e1 := hW.1.2.c1; have e2 := hW.1.2.c2; have e3 := hW.1.2.c3
              clear hW
              simp only [List.getElem_cons_zero, List.getElem_cons_succ]
              go_simp
              first | done | with_reducible rfl
            simp only [List.getElem_cons_zero, List.getElem_cons_succ, Act.put, List.setIfInBounds_toArray, List.set_cons_zero, List.set_cons_succ]
            refine take_at 18 (by decide) (v := ?_) (by kernel_rfl) (by kernel_rfl) (by kernel_rfl) (fun _ _ _ h => h) hS (Or.inl ⟨by rfl, ?_⟩) ?_
            rotate_left
            · intro W hW
              skip
              clear hW
              simp only [List.getElem_cons_zero, List.getElem_cons_succ]
              go_simp
              first | done | with_reducible rfl
            simp only [List.getElem_cons_zero, List.getElem_cons_succ, Act.put, List.setIfInBounds_toArray, List.set_cons_zero, List.set_cons_succ]
            refine take_at 19 (by decide) (v := ?_) (by kernel_rfl) (by kernel_rfl) (by kernel_rfl) (fun _ _ _ h => h) hS (Or.inl ⟨by rfl, ?_⟩) ?_
            rotate_left
            · intro W hW
              skip
              clear hW
              simp only [List.getElem_cons_zero, List.getElem_cons_succ]
              go_simp
              first | done | with_reducible rfl
            simp only [List.getElem_cons_zero, List.getElem_cons_succ, Act.put, List.setIfInBounds_toArray, List.set_cons_zero, List.set_cons_succ]
            refine take_at 20 (by decide) (v := ?_) (by kernel_rfl) (by kernel_rfl) (by kernel_rfl) (fun _ _ _ h => h) hS (Or.inl ⟨by rfl, ?_⟩) ?_
            rotate_left
            · intro W hW
              skip
              clear hW
              simp only [List.getElem_cons_zero, List.getElem_cons_succ]
              go_simp
              first | done | with_reducible rfl
            simp only [List.getElem_cons_zero, List.getElem_cons_succ, Act.put, List.setIfInBounds_toArray, List.set_cons_zero, List.set_cons_succ]
            refine take_at 21 (by decide) (v := ?_) (by kernel_rfl) (by kernel_rfl) (by kernel_rfl) (fun _ _ _ h => h) hS (Or.inl ⟨by rfl, ?_⟩) ?_
            rotate_left
            · intro W hW
              skip
              clear hW
              simp only [List.getElem_cons_zero, List.getElem_cons_succ]
              go_simp
              first | done | with_reducible rfl
            simp only [List.getElem_cons_zero, List.getElem_cons_succ, Act.put, List.setIfInBounds_toArray, List.set_cons_zero, List.set_cons_succ]
            refine take_at 22 (by decide) (v := ?_) (by kernel_rfl) (by kernel_rfl) (by kernel_rfl) (fun _ _ _ h => h) hS (Or.inl ⟨by rfl, ?_⟩) ?_
            rotate_left
            · intro W hW
              skip
              clear hW
              simp only [List.getElem_cons_zero, List.getElem_cons_succ]
              go_simp
              first | done | with_reducible rfl
            simp only [List.getElem_cons_zero, List.getElem_cons_succ, Act.put, List.setIfInBounds_toArray, List.set_cons_zero, List.set_cons_succ]
            refine take_at 23 (by decide) (v := ?_) (by kernel_rfl) (by kernel_rfl) (by kernel_rfl) (fun _ _ _ h => h) hS (Or.inl ⟨by rfl, ?_⟩) ?_
            rotate_left
            · intro W hW
              skip
              clear hW
              simp only [List.getElem_cons_zero, List.getElem_cons_succ]
              go_simp
              first | done | with_reducible rfl
            simp only [List.getElem_cons_zero, List.getElem_cons_succ, Act.put, List.setIfInBounds_toArray, List.set_cons_zero, List.set_cons_succ]
            refine take_at 24 (by decide) (v := ?_) (by kernel_rfl) (by kernel_rfl) (by kernel_rfl) (fun _ _ _ h => h) hS (Or.inl ⟨by rfl, ?_⟩) ?_
            rotate_left
            · intro W hW
              skip
              clear hW
              simp only [List.getElem_cons_zero, List.getElem_cons_succ]
              go_simp
              first | done | with_reducible rfl
            simp only [List.getElem_cons_zero, List.getElem_cons_succ, Act.put, List.setIfInBounds_toArray, List.set_cons_zero, List.set_cons_succ]
            refine take_at 25 (by decide) (v := undef) (by kernel_rfl) (by kernel_rfl) (by kernel_rfl) (fun _ _ _ h => h) hS (Or.inr ⟨by rfl, rfl⟩) ?_
            simp only [List.getElem_cons_zero, List.getElem_cons_succ, Act.put, List.setIfInBounds_toArray, List.set_cons_zero, List.set_cons_succ]
            refine take_at 26 (by decide) (v := undef) (by kernel_rfl) (by kernel_rfl) (by kernel_rfl) (fun _ _ _ h => h) hS (Or.inr ⟨by rfl, rfl⟩) ?_
            simp only [List.getElem_cons_zero, List.getElem_cons_succ, Act.put, List.setIfInBounds_toArray, List.set_cons_zero, List.set_cons_succ]
            refine take_at 27 (by decide) (v := undef) (by kernel_rfl) (by kernel_rfl) (by kernel_rfl) (fun _ _ _ h => h) hS (Or.inr ⟨by rfl, rfl⟩) ?_
            simp only [List.getElem_cons_zero, List.getElem_cons_succ, Act.put, List.setIfInBounds_toArray, List.set_cons_zero, List.set_cons_succ]
            refine take_at 28 (by decide) (v := undef) (by kernel_rfl) (by kernel_rfl) (by kernel_rfl) (fun _ _ _ h => h) hS (Or.inr ⟨by rfl, rfl⟩) ?_
            simp only [List.getElem_cons_zero, List.getElem_cons_succ, Act.put, List.setIfInBounds_toArray, List.set_cons_zero, List.set_cons_succ]
            refine take_at 29 (by decide) (v := undef) (by kernel_rfl) (by kernel_rfl) (by kernel_rfl) (fun _ _ _ h => h) hS (Or.inr ⟨by rfl, rfl⟩) ?_
            simp only [List.getElem_cons_zero, List.getElem_cons_succ, Act.put, List.setIfInBounds_toArray, List.set_cons_zero, List.set_cons_succ]
            refine take_at 30 (by decide) (v := undef) (by kernel_rfl) (by kernel_rfl) (by kernel_rfl) (fun _ _ _ h => h) hS (Or.inr ⟨by rfl, rfl⟩) ?_
            simp only [List.getElem_cons_zero, List.getElem_cons_succ, Act.put, List.setIfInBounds_toArray, List.set_cons_zero, List.set_cons_succ]
            refine take_at 31 (by decide) (v := undef) (by kernel_rfl) (by kernel_rfl) (by kernel_rfl) (fun _ _ _ h => h) hS (Or.inr ⟨by rfl, rfl⟩) ?_
            simp only [List.getElem_cons_zero, List.getElem_cons_succ, Act.put, List.setIfInBounds_toArray, List.set_cons_zero, List.set_cons_succ]
            refine take_at 32 (by decide) (v := undef) (by kernel_rfl) (by kernel_rfl) (by kernel_rfl) (fun _ _ _ h => h) hS (Or.inr ⟨by rfl, rfl⟩) ?_
            simp only [List.getElem_cons_zero, List.getElem_cons_succ, Act.put, List.setIfInBounds_toArray, List.set_cons_zero, List.set_cons_succ]
            refine take_at 33 (by decide) (v := undef) (by kernel_rfl) (by kernel_rfl) (by kernel_rfl) (fun _ _ _ h => h) hS (Or.inr ⟨by rfl, rfl⟩) ?_
            simp only [List.getElem_cons_zero, List.getElem_cons_succ, Act.put, List.setIfInBounds_toArray, List.set_cons_zero, List.set_cons_succ]
            refine take_at 34 (by decide) (v := ?_) (by kernel_rfl) (by kernel_rfl) (by kernel_rfl) (fun _ _ _ h => h) hS (Or.inl ⟨by rfl, ?_⟩) ?_
            rotate_left
            · intro W hW
              skip
              clear hW
              simp only [List.getElem_cons_zero, List.getElem_cons_succ]
              go_simp
              first | done | with_reducible rfl
            simp only [List.getElem_cons_zero, List.getElem_cons_succ, Act.put, List.setIfInBounds_toArray, List.set_cons_zero, List.set_cons_succ]
            refine take_at 35 (by decide) (v := ?_) (by kernel_rfl) (by kernel_rfl) (by kernel_rfl) (fun _ _ _ h => h) hS (Or.inl ⟨by rfl, ?_⟩) ?_
            rotate_left
            · intro W hW
              skip
              clear hW
              simp only [List.getElem_cons_zero, List.getElem_cons_succ]
              go_simp
              first | done | with_reducible rfl
            simp only [List.getElem_cons_zero, List.getElem_cons_succ, Act.put, List.setIfInBounds_toArray, List.set_cons_zero, List.set_cons_succ]
            refine take_at 36 (by decide) (v := ?_) (by kernel_rfl) (by kernel_rfl) (by kernel_rfl) (fun _ _ _ h => h) hS (Or.inl ⟨by rfl, ?_⟩) ?_
            rotate_left
            · intro W hW
              skip
              clear hW
              simp only [List.getElem_cons_zero, List.getElem_cons_succ]
              go_simp
              first | done | with_reducible rfl
            simp only [List.getElem_cons_zero, List.getElem_cons_succ, Act.put, List.setIfInBounds_toArray, List.set_cons_zero, List.set_cons_succ]
            refine take_at 37 (by decide) (by kernel_rfl) (by kernel_rfl) (by kernel_rfl) (fun _ _ _ h => h) hS (yields_load_row (by rfl) 23 (.tmp 2) rfl w.heap.size rfl _ _ _ _ (fun W hW => hW.1.1) Tryd.underlying23 rfl (by kernel_rfl)) ?_
            simp only [List.getElem_cons_zero, List.getElem_cons_succ, Act.put, List.setIfInBounds_toArray, List.set_cons_zero, List.set_cons_succ]
            refine take_at 38 (by decide) (v := ?_) (by kernel_rfl) (by kernel_rfl) (by kernel_rfl) (fun _ _ _ h => h) hS (Or.inl ⟨by rfl, ?_⟩) ?_
            rotate_left
            · intro W hW
              skip
              clear hW
              simp only [List.getElem_cons_zero, List.getElem_cons_succ]
              go_simp
              first | done | with_reducible rfl
            simp only [List.getElem_cons_zero, List.getElem_cons_succ, Act.put, List.setIfInBounds_toArray, List.set_cons_zero, List.set_cons_succ]
            refine take_at 39 (by decide) (v := ?_) (by kernel_rfl) (by kernel_rfl) (by kernel_rfl) (fun _ _ _ h => h) hS (Or.inl ⟨by rfl, ?_⟩) ?_
            rotate_left
            · intro W hW
              skip
              clear hW
              simp only [List.getElem_cons_zero, List.getElem_cons_succ]
              go_simp
              first | done | with_reducible rfl
            simp only [List.getElem_cons_zero, List.getElem_cons_succ, Act.put, List.setIfInBounds_toArray, List.set_cons_zero, List.set_cons_succ]
            refine take_at 41 (by decide) (v := ?_) (by kernel_rfl) (by kernel_rfl) (by kernel_rfl) (fun _ _ _ h => h) hS (Or.inl ⟨by rfl, ?_⟩) ?_
            rotate_left
            · intro W hW
              skip
              clear hW
              simp only [List.getElem_cons_zero, List.getElem_cons_succ]
              go_simp
              first | done | with_reducible rfl
            simp only [List.getElem_cons_zero, List.getElem_cons_succ, Act.put, List.setIfInBounds_toArray, List.set_cons_zero, List.set_cons_succ]
            refine call_at 40 (by decide) (Pi := (fun v _ => v = .int .i64 left)) (by kernel_rfl) (by rfl) (by simp only [List.getElem_cons_zero, List.getElem_cons_succ]; go_simp; first | done | rfl | exact ⟨rfl, rfl⟩) (call_one SK.mono hS (HRW.out _ hS)) ?_
            clear hS
            rintro w5 u hS rfl
            simp only [List.getElem_cons_zero, List.getElem_cons_succ, Act.put, List.setIfInBounds_toArray, List.set_cons_zero, List.set_cons_succ]
            refine take_at 42 (by decide) (v := ?_) (by kernel_rfl) (by kernel_rfl) (by kernel_rfl) (fun _ _ _ h => h) hS (Or.inl ⟨by rfl, ?_⟩) ?_
            rotate_left
            · intro W hW
              skip
              clear hW
              simp only [List.getElem_cons_zero, List.getElem_cons_succ]
              go_simp
              first | done | with_reducible rfl
            simp only [List.getElem_cons_zero, List.getElem_cons_succ, Act.put, List.setIfInBounds_toArray, List.set_cons_zero, List.set_cons_succ]
            refine take_at 43 (by decide) (v := ?_) (by kernel_rfl) (by kernel_rfl) (by kernel_rfl) (fun _ _ _ h => h) hS (Or.inl ⟨by rfl, ?_⟩) ?_
            rotate_left
            · intro W hW
              skip
              clear hW
              simp only [List.getElem_cons_zero, List.getElem_cons_succ]
              go_simp
              first | done | with_reducible rfl
            simp only [List.getElem_cons_zero, List.getElem_cons_succ, Act.put, List.setIfInBounds_toArray, List.set_cons_zero, List.set_cons_succ]
            refine wpAnyH_done (by kernel_rfl) ?_ _
            have hwl : wrap64 (left - dpr) = left - dpr := Ln.wrap_in (by omega) (by omega)
            have HWL := Lib.hid hwl
            clear hwl
            have e2 := hS.1.2.c2
            have cw5 := Ln.bl2 hS.2 cwq
            go_wp2_with fail
            go_roundg (gk - 1)
            case measure => omega
            case rel => exact ⟨k + 1, by omega, by go_num, An.int_eq (by have hq := HL1.out; have hq2 := HWL.out; omega), cw5⟩
          · obtain ⟨y, hyd, hcy⟩ := HCY.out (by omega)
            clear HCY
            have HCY := Lib.hid hcy
            clear hcy
            have f4 : decide (0 < (k : Int)) = true := decide_eq_true (by omega)
            have f6 : decide (0 < k) = true := decide_eq_true (by omega)
            have f7 : 0 < k := by omega
            have f5 : decide (dday < y) = false := decide_eq_false (by omega)
            have hw2 : IntKind.i64.wrap ((k : Int) - 1) = ((k - 1 : Nat) : Int) := by rw [IntKind.wrap_i64]; omega
            have hkn : k - 1 < n := by omega
            have hS0 : SK wq w.heap.size #[.int .i64 (t).me, .int .i64 (t).pr, .int .i64 (t).ppm, .int .i64 (t).stt, .int .i64 (t).ev, .int .i64 (t).ct, .int .i64 (t).ba, .int .i64 (t).mo, .int .i64 (t).pen, .int .i64 (t).fe, .string (t).cal, .string (t).cur] 23 wr.heap.size #[.int .i64 ((k : Int) + 1), .int .i64 dday, .int .i64 dpr, .int .i64 dit] 44 wq.drew := ⟨⟨(kt.later hbq).drew, hkq.drew⟩, (Below.refl _ _).drew⟩
            refine wp_region_held_drew (S := SK wq w.heap.size #[.int .i64 (t).me, .int .i64 (t).pr, .int .i64 (t).ppm, .int .i64 (t).stt, .int .i64 (t).ev, .int .i64 (t).ct, .int .i64 (t).ba, .int .i64 (t).mo, .int .i64 (t).pen, .int .i64 (t).fe, .string (t).cal, .string (t).cur] 23 wr.heap.size #[.int .i64 ((k : Int) + 1), .int .i64 dday, .int .i64 dpr, .int .i64 dit] 44) (by kernel_rfl) hS0 (fun hS => ?_)
            clear hS0
            refine take_at 0 (by decide) (v := ?_) (by kernel_rfl) (by kernel_rfl) (by kernel_rfl) (fun _ _ _ h => h) hS (Or.inl ⟨by rfl, ?_⟩) ?_
            rotate_left
            · intro W hW
              skip
              clear hW
              simp only [List.getElem_cons_zero, List.getElem_cons_succ]
              go_simp
              first | done | with_reducible rfl
            simp only [List.getElem_cons_zero, List.getElem_cons_succ, Act.put, List.setIfInBounds_toArray, List.set_cons_zero, List.set_cons_succ]
            refine take_at 1 (by decide) (v := ?_) (by kernel_rfl) (by kernel_rfl) (by kernel_rfl) (fun _ _ _ h => h) hS (Or.inl ⟨by rfl, ?_⟩) ?_
            rotate_left
            · intro W hW
              have e0 := hW.1.2.c0; have e1 := hW.1.2.c1; have e2 := hW.1.2.c2; have e3 := hW.1.2.c3
              clear hW
              simp only [List.getElem_cons_zero, List.getElem_cons_succ]
              go_simp
              first | done | with_reducible rfl
            simp only [List.getElem_cons_zero, List.getElem_cons_succ, Act.put, List.setIfInBounds_toArray, List.set_cons_zero, List.set_cons_succ]
            refine take_at 2 (by decide) (v := ?_) (by kernel_rfl) (by kernel_rfl) (by kernel_rfl) (fun _ _ _ h => h) hS (Or.inl ⟨by rfl, ?_⟩) ?_
            rotate_left
            · intro W hW
              skip
              clear hW
              simp only [List.getElem_cons_zero, List.getElem_cons_succ]
              go_simp
              first | done | with_reducible rfl
            simp only [List.getElem_cons_zero, List.getElem_cons_succ, Act.put, List.setIfInBounds_toArray, List.set_cons_zero, List.set_cons_succ]
            refine take_at 3 (by decide) (v := ?_) (by kernel_rfl) (by kernel_rfl) (by kernel_rfl) (fun _ _ _ h => h) hS (Or.inl ⟨by rfl, ?_⟩) ?_
            rotate_left
            · intro W hW
              skip
              clear hW
              simp only [List.getElem_cons_zero, List.getElem_cons_succ]
              go_simp
              first | done | with_reducible rfl
            simp only [List.getElem_cons_zero, List.getElem_cons_succ, Act.put, List.setIfInBounds_toArray, List.set_cons_zero, List.set_cons_succ]
            refine take_at 4 (by decide) (v := ?_) (by kernel_rfl) (by kernel_rfl) (by kernel_rfl) (fun _ _ _ h => h) hS (Or.inl ⟨by rfl, ?_⟩) ?_
            rotate_left
            · intro W hW
              skip
              clear hW
              simp only [List.getElem_cons_zero, List.getElem_cons_succ]
              go_simp
              first | done | with_reducible rfl
            simp only [List.getElem_cons_zero, List.getElem_cons_succ, Act.put, List.setIfInBounds_toArray, List.set_cons_zero, List.set_cons_succ]
            refine take_at 5 (by decide) (v := ?_) (by kernel_rfl) (by kernel_rfl) (by kernel_rfl) (fun _ _ _ h => h) hS (Or.inl ⟨by rfl, ?_⟩) ?_
            rotate_left
            · intro W hW
              skip
              clear hW
              simp only [List.getElem_cons_zero, List.getElem_cons_succ]
              go_simp
              first | done | with_reducible rfl
            simp only [List.getElem_cons_zero, List.getElem_cons_succ, Act.put, List.setIfInBounds_toArray, List.set_cons_zero, List.set_cons_succ]
            refine take_at 6 (by decide) (v := ?_) (by kernel_rfl) (by kernel_rfl) (by kernel_rfl) (fun _ _ _ h => h) hS (Or.inl ⟨by rfl, ?_⟩) ?_
            rotate_left
            · intro W hW
              skip
              clear hW
              simp only [List.getElem_cons_zero, List.getElem_cons_succ]
              go_simp
              first | done | with_reducible rfl
            simp only [List.getElem_cons_zero, List.getElem_cons_succ, Act.put, List.setIfInBounds_toArray, List.set_cons_zero, List.set_cons_succ]
            refine take_at 7 (by decide) (v := ?_) (by kernel_rfl) (by kernel_rfl) (by kernel_rfl) (fun _ _ _ h => h) hS (Or.inl ⟨by rfl, ?_⟩) ?_
            rotate_left
            · intro W hW
              have e0 := hW.1.2.c0; have e1 := hW.1.2.c1; have e2 := hW.1.2.c2; have e3 := hW.1.2.c3
              clear hW
              simp only [List.getElem_cons_zero, List.getElem_cons_succ]
              go_simp
              first | done | with_reducible rfl
            simp only [List.getElem_cons_zero, List.getElem_cons_succ, Act.put, List.setIfInBounds_toArray, List.set_cons_zero, List.set_cons_succ]
            refine take_at 8 (by decide) (v := ?_) (by kernel_rfl) (by kernel_rfl) (by kernel_rfl) (fun _ _ _ h => h) hS (Or.inl ⟨by rfl, ?_⟩) ?_
            rotate_left
            · intro W hW
              skip
              clear hW
              simp only [List.getElem_cons_zero, List.getElem_cons_succ]
              go_simp
              first | done | with_reducible rfl
            simp only [List.getElem_cons_zero, List.getElem_cons_succ, Act.put, List.setIfInBounds_toArray, List.set_cons_zero, List.set_cons_succ]
            refine take_at 9 (by decide) (v := ?_) (by kernel_rfl) (by kernel_rfl) (by kernel_rfl) (fun _ _ _ h => h) hS (Or.inl ⟨by rfl, ?_⟩) ?_
            rotate_left
            · intro W hW
              skip
              clear hW
              simp only [List.getElem_cons_zero, List.getElem_cons_succ]
              go_simp
              first | done | with_reducible rfl
            simp only [List.getElem_cons_zero, List.getElem_cons_succ, Act.put, List.setIfInBounds_toArray, List.set_cons_zero, List.set_cons_succ]
            refine take_at 10 (by decide) (v := ?_) (by kernel_rfl) (by kernel_rfl) (by kernel_rfl) (fun _ _ _ h => h) hS (Or.inl ⟨by rfl, ?_⟩) ?_
            rotate_left
            · intro W hW
              skip
              clear hW
              simp only [List.getElem_cons_zero, List.getElem_cons_succ]
              go_simp
              first | done | with_reducible rfl
            simp only [List.getElem_cons_zero, List.getElem_cons_succ, Act.put, List.setIfInBounds_toArray, List.set_cons_zero, List.set_cons_succ]
            refine take_at 11 (by decide) (v := ?_) (by kernel_rfl) (by kernel_rfl) (by kernel_rfl) (fun _ _ _ h => h) hS (Or.inl ⟨by rfl, ?_⟩) ?_
            rotate_left
            · intro W hW
              skip
              clear hW
              simp only [List.getElem_cons_zero, List.getElem_cons_succ]
              go_simp
              first | done | with_reducible rfl
            simp only [List.getElem_cons_zero, List.getElem_cons_succ, Act.put, List.setIfInBounds_toArray, List.set_cons_zero, List.set_cons_succ]
            refine take_at 12 (by decide) (v := ?_) (by kernel_rfl) (by kernel_rfl) (by kernel_rfl) (fun _ _ _ h => h) hS (Or.inl ⟨by rfl, ?_⟩) ?_
            rotate_left
            · intro W hW
              have e0 := hW.1.2.c0; have e1 := hW.1.2.c1; have e2 := hW.1.2.c2; have e3 := hW.1.2.c3
              clear hW
              simp only [List.getElem_cons_zero, List.getElem_cons_succ]
              go_simp
              first | done | with_reducible rfl
            simp only [List.getElem_cons_zero, List.getElem_cons_succ, Act.put, List.setIfInBounds_toArray, List.set_cons_zero, List.set_cons_succ]
            refine take_at 13 (by decide) (v := ?_) (by kernel_rfl) (by kernel_rfl) (by kernel_rfl) (fun _ _ _ h => h) hS (Or.inl ⟨by rfl, ?_⟩) ?_
            rotate_left
            · intro W hW
              skip
              clear hW
              simp only [List.getElem_cons_zero, List.getElem_cons_succ]
              go_simp
              first | done | with_reducible rfl
            simp only [List.getElem_cons_zero, List.getElem_cons_succ, Act.put, List.setIfInBounds_toArray, List.set_cons_zero, List.set_cons_succ]
            refine take_at 14 (by decide) (v := ?_) (by kernel_rfl) (by kernel_rfl) (by kernel_rfl) (fun _ _ _ h => h) hS (Or.inl ⟨by rfl, ?_⟩) ?_
            rotate_left
            · intro W hW
              skip
              clear hW
              simp only [List.getElem_cons_zero, List.getElem_cons_succ]
              go_simp
              first | done | with_reducible rfl
            simp only [List.getElem_cons_zero, List.getElem_cons_succ, Act.put, List.setIfInBounds_toArray, List.set_cons_zero, List.set_cons_succ]
            refine take_at 15 (by decide) (v := ?_) (by kernel_rfl) (by kernel_rfl) (by kernel_rfl) (fun _ _ _ h => h) hS (Or.inl ⟨by rfl, ?_⟩) ?_
            rotate_left
            · intro W hW
              skip
              clear hW
              simp only [List.getElem_cons_zero, List.getElem_cons_succ]
              go_simp
              first | done | with_reducible rfl
            simp only [List.getElem_cons_zero, List.getElem_cons_succ, Act.put, List.setIfInBounds_toArray, List.set_cons_zero, List.set_cons_succ]
            refine take_at 16 (by decide) (v := ?_) (by kernel_rfl) (by kernel_rfl) (by kernel_rfl) (fun _ _ _ h => h) hS (Or.inl ⟨by rfl, ?_⟩) ?_
            rotate_left
            · intro W hW
              skip
              clear hW
              simp only [List.getElem_cons_zero, List.getElem_cons_succ]
              go_simp
              first | done | with_reducible rfl
            simp only [List.getElem_cons_zero, List.getElem_cons_succ, Act.put, List.setIfInBounds_toArray, List.set_cons_zero, List.set_cons_succ]
            refine take_at 17 (by decide) (v := ?_) (by kernel_rfl) (by kernel_rfl) (by kernel_rfl) (fun _ _ _ h => h) hS (Or.inl ⟨by rfl, ?_⟩) ?_
            rotate_left
            · intro W hW
              have e0 := hW.1.2.c0; have e1 := hW.1.2.c1; have e2 := hW.1.2.c2; have e3 := hW.1.2.c3
              clear hW
              simp only [List.getElem_cons_zero, List.getElem_cons_succ]
              go_simp
              first | done | with_reducible rfl
            simp only [List.getElem_cons_zero, List.getElem_cons_succ, Act.put, List.setIfInBounds_toArray, List.set_cons_zero, List.set_cons_succ]
            refine take_at 18 (by decide) (v := ?_) (by kernel_rfl) (by kernel_rfl) (by kernel_rfl) (fun _ _ _ h => h) hS (Or.inl ⟨by rfl, ?_⟩) ?_
            rotate_left
            · intro W hW
              skip
              clear hW
              simp only [List.getElem_cons_zero, List.getElem_cons_succ]
              go_simp
              first | done | with_reducible rfl
            simp only [List.getElem_cons_zero, List.getElem_cons_succ, Act.put, List.setIfInBounds_toArray, List.set_cons_zero, List.set_cons_succ]
            refine take_at 19 (by decide) (v := ?_) (by kernel_rfl) (by kernel_rfl) (by kernel_rfl) (fun _ _ _ h => h) hS (Or.inl ⟨by rfl, ?_⟩) ?_
            rotate_left
            · intro W hW
              skip
              clear hW
              simp only [List.getElem_cons_zero, List.getElem_cons_succ]
              go_simp
              first | done | with_reducible rfl
            simp only [List.getElem_cons_zero, List.getElem_cons_succ, Act.put, List.setIfInBounds_toArray, List.set_cons_zero, List.set_cons_succ]
            refine take_at 20 (by decide) (v := ?_) (by kernel_rfl) (by kernel_rfl) (by kernel_rfl) (fun _ _ _ h => h) hS (Or.inl ⟨by rfl, ?_⟩) ?_
            rotate_left
            · intro W hW
              skip
              clear hW
              simp only [List.getElem_cons_zero, List.getElem_cons_succ]
              go_simp
              first | done | with_reducible rfl
            simp only [List.getElem_cons_zero, List.getElem_cons_succ, Act.put, List.setIfInBounds_toArray, List.set_cons_zero, List.set_cons_succ]
            refine take_at 21 (by decide) (v := ?_) (by kernel_rfl) (by kernel_rfl) (by kernel_rfl) (fun _ _ _ h => h) hS (Or.inl ⟨by rfl, ?_⟩) ?_
            rotate_left
            · intro W hW
              skip
              clear hW
              simp only [List.getElem_cons_zero, List.getElem_cons_succ]
              go_simp
              first | done | with_reducible rfl
            simp only [List.getElem_cons_zero, List.getElem_cons_succ, Act.put, List.setIfInBounds_toArray, List.set_cons_zero, List.set_cons_succ]
            refine take_at 22 (by decide) (v := ?_) (by kernel_rfl) (by kernel_rfl) (by kernel_rfl) (fun _ _ _ h => h) hS (Or.inl ⟨by rfl, ?_⟩) ?_
            rotate_left
            · intro W hW
              skip
              clear hW
              simp only [List.getElem_cons_zero, List.getElem_cons_succ]
              go_simp
              first | done | with_reducible rfl
            simp only [List.getElem_cons_zero, List.getElem_cons_succ, Act.put, List.setIfInBounds_toArray, List.set_cons_zero, List.set_cons_succ]
            refine take_at 23 (by decide) (v := ?_) (by kernel_rfl) (by kernel_rfl) (by kernel_rfl) (fun _ _ _ h => h) hS (Or.inl ⟨by rfl, ?_⟩) ?_
            rotate_left
            · intro W hW
              skip
              clear hW
              simp only [List.getElem_cons_zero, List.getElem_cons_succ]
              go_simp
              first | done | with_reducible rfl
            simp only [List.getElem_cons_zero, List.getElem_cons_succ, Act.put, List.setIfInBounds_toArray, List.set_cons_zero, List.set_cons_succ]
            refine take_at 24 (by decide) (v := ?_) (by kernel_rfl) (by kernel_rfl) (by kernel_rfl) (fun _ _ _ h => h) hS (Or.inl ⟨by rfl, ?_⟩) ?_
            rotate_left
            · intro W hW
              skip
              clear hW
              simp only [List.getElem_cons_zero, List.getElem_cons_succ]
              go_simp
              first | done | with_reducible rfl
            simp only [List.getElem_cons_zero, List.getElem_cons_succ, Act.put, List.setIfInBounds_toArray, List.set_cons_zero, List.set_cons_succ]
            refine take_at 25 (by decide) (v := ?_) (by kernel_rfl) (by kernel_rfl) (by kernel_rfl) (fun _ _ _ h => h) hS (Or.inl ⟨by rfl, ?_⟩) ?_
            rotate_left
            · intro W hW
              skip
              clear hW
              simp only [List.getElem_cons_zero, List.getElem_cons_succ]
              go_simp
              first | done | with_reducible rfl
            simp only [List.getElem_cons_zero, List.getElem_cons_succ, Act.put, List.setIfInBounds_toArray, List.set_cons_zero, List.set_cons_succ]
            refine take_at 26 (by decide) (v := ?_) (by kernel_rfl) (by kernel_rfl) (by kernel_rfl) (fun _ _ _ h => h) hS (Or.inl ⟨by rfl, ?_⟩) ?_
            rotate_left
            · intro W hW
              have e0 := hW.1.2.c0; have e1 := hW.1.2.c1; have e2 := hW.1.2.c2; have e3 := hW.1.2.c3
              clear hW
              simp only [List.getElem_cons_zero, List.getElem_cons_succ]
              go_simp
              first | done | with_reducible rfl
            simp only [List.getElem_cons_zero, List.getElem_cons_succ, Act.put, List.setIfInBounds_toArray, List.set_cons_zero, List.set_cons_succ]
            refine take_at 27 (by decide) (v := ?_) (by kernel_rfl) (by kernel_rfl) (by kernel_rfl) (fun _ _ _ h => h) hS (Or.inl ⟨by rfl, ?_⟩) ?_
            rotate_left
            · intro W hW
              skip
              clear hW
              simp only [List.getElem_cons_zero, List.getElem_cons_succ]
              go_simp
              first | done | with_reducible rfl
            simp only [List.getElem_cons_zero, List.getElem_cons_succ, Act.put, List.setIfInBounds_toArray, List.set_cons_zero, List.set_cons_succ]
            refine take_at 28 (by decide) (v := ?_) (by kernel_rfl) (by kernel_rfl) (by kernel_rfl) (fun _ _ _ h => h) hS (Or.inl ⟨by rfl, ?_⟩) ?_
            rotate_left
            · intro W hW
              skip
              clear hW
              simp only [List.getElem_cons_zero, List.getElem_cons_succ]
              go_simp
              first | done | with_reducible rfl
            simp only [List.getElem_cons_zero, List.getElem_cons_succ, Act.put, List.setIfInBounds_toArray, List.set_cons_zero, List.set_cons_succ]
            refine take_at 29 (by decide) (v := ?_) (by kernel_rfl) (by kernel_rfl) (by kernel_rfl) (fun _ _ _ h => h) hS (Or.inl ⟨by rfl, ?_⟩) ?_
            rotate_left
            · intro W hW
              skip
              clear hW
              simp only [List.getElem_cons_zero, List.getElem_cons_succ]
              go_simp
              first | done | with_reducible rfl
            simp only [List.getElem_cons_zero, List.getElem_cons_succ, Act.put, List.setIfInBounds_toArray, List.set_cons_zero, List.set_cons_succ]
            refine take_at 30 (by decide) (v := ?_) (by kernel_rfl) (by kernel_rfl) (by kernel_rfl) (fun _ _ _ h => h) hS (Or.inl ⟨by rfl, ?_⟩) ?_
            rotate_left
            · intro W hW
              skip
              clear hW
              simp only [List.getElem_cons_zero, List.getElem_cons_succ]
              go_simp
              first | done | with_reducible rfl
            simp only [List.getElem_cons_zero, List.getElem_cons_succ, Act.put, List.setIfInBounds_toArray, List.set_cons_zero, List.set_cons_succ]
            refine take_at 31 (by decide) (v := ?_) (by kernel_rfl) (by kernel_rfl) (by kernel_rfl) (fun _ _ _ h => h) hS (Or.inl ⟨by rfl, ?_⟩) ?_
            rotate_left
            · intro W hW
              skip
              clear hW
              simp only [List.getElem_cons_zero, List.getElem_cons_succ]
              go_simp
              first | done | with_reducible rfl
            simp only [List.getElem_cons_zero, List.getElem_cons_succ, Act.put, List.setIfInBounds_toArray, List.set_cons_zero, List.set_cons_succ]
            refine take_at 32 (by decide) (v := ?_) (by kernel_rfl) (by kernel_rfl) (by kernel_rfl) (fun _ _ _ h => h) hS (Or.inl ⟨by rfl, ?_⟩) ?_
            rotate_left
            · intro W hW
              have e5 := HCY.out W hW
              clear hW
              simp only [List.getElem_cons_zero, List.getElem_cons_succ]
              go_simp
              first | done | with_reducible rfl
            simp only [List.getElem_cons_zero, List.getElem_cons_succ, Act.put, List.setIfInBounds_toArray, List.set_cons_zero, List.set_cons_succ]
            refine take_at 33 (by decide) (v := ?_) (by kernel_rfl) (by kernel_rfl) (by kernel_rfl) (fun _ _ _ h => h) hS (Or.inl ⟨by rfl, ?_⟩) ?_
            rotate_left
            · intro W hW
              skip
              clear hW
              simp only [List.getElem_cons_zero, List.getElem_cons_succ]
              go_simp
              first | done | with_reducible rfl
            simp only [List.getElem_cons_zero, List.getElem_cons_succ, Act.put, List.setIfInBounds_toArray, List.set_cons_zero, List.set_cons_succ]
            refine take_at 34 (by decide) (v := ?_) (by kernel_rfl) (by kernel_rfl) (by kernel_rfl) (fun _ _ _ h => h) hS (Or.inl ⟨by rfl, ?_⟩) ?_
            rotate_left
            · intro W hW
              skip
              clear hW
              simp only [List.getElem_cons_zero, List.getElem_cons_succ]
              go_simp
              first | done | with_reducible rfl
            simp only [List.getElem_cons_zero, List.getElem_cons_succ, Act.put, List.setIfInBounds_toArray, List.set_cons_zero, List.set_cons_succ]
            refine take_at 35 (by decide) (v := ?_) (by kernel_rfl) (by kernel_rfl) (by kernel_rfl) (fun _ _ _ h => h) hS (Or.inl ⟨by rfl, ?_⟩) ?_
            rotate_left
            · intro W hW
              skip
              clear hW
              simp only [List.getElem_cons_zero, List.getElem_cons_succ]
              go_simp
              first | done | with_reducible rfl
            simp only [List.getElem_cons_zero, List.getElem_cons_succ, Act.put, List.setIfInBounds_toArray, List.set_cons_zero, List.set_cons_succ]
            refine take_at 36 (by decide) (v := ?_) (by kernel_rfl) (by kernel_rfl) (by kernel_rfl) (fun _ _ _ h => h) hS (Or.inl ⟨by rfl, ?_⟩) ?_
            rotate_left
            · intro W hW
              skip
              clear hW
              simp only [List.getElem_cons_zero, List.getElem_cons_succ]
              go_simp
              first | done | with_reducible rfl
            simp only [List.getElem_cons_zero, List.getElem_cons_succ, Act.put, List.setIfInBounds_toArray, List.set_cons_zero, List.set_cons_succ]
            refine take_at 37 (by decide) (by kernel_rfl) (by kernel_rfl) (by kernel_rfl) (fun _ _ _ h => h) hS (yields_load_row (by rfl) 23 (.tmp 2) rfl w.heap.size rfl _ _ _ _ (fun W hW => hW.1.1) Tryd.underlying23 rfl (by kernel_rfl)) ?_
            simp only [List.getElem_cons_zero, List.getElem_cons_succ, Act.put, List.setIfInBounds_toArray, List.set_cons_zero, List.set_cons_succ]
            refine take_at 38 (by decide) (v := ?_) (by kernel_rfl) (by kernel_rfl) (by kernel_rfl) (fun _ _ _ h => h) hS (Or.inl ⟨by rfl, ?_⟩) ?_
            rotate_left
            · intro W hW
              skip
              clear hW
              simp only [List.getElem_cons_zero, List.getElem_cons_succ]
              go_simp
              first | done | with_reducible rfl
            simp only [List.getElem_cons_zero, List.getElem_cons_succ, Act.put, List.setIfInBounds_toArray, List.set_cons_zero, List.set_cons_succ]
            refine take_at 39 (by decide) (v := ?_) (by kernel_rfl) (by kernel_rfl) (by kernel_rfl) (fun _ _ _ h => h) hS (Or.inl ⟨by rfl, ?_⟩) ?_
            rotate_left
            · intro W hW
              skip
              clear hW
              simp only [List.getElem_cons_zero, List.getElem_cons_succ]
              go_simp
              first | done | with_reducible rfl
            simp only [List.getElem_cons_zero, List.getElem_cons_succ, Act.put, List.setIfInBounds_toArray, List.set_cons_zero, List.set_cons_succ]
            refine take_at 41 (by decide) (v := ?_) (by kernel_rfl) (by kernel_rfl) (by kernel_rfl) (fun _ _ _ h => h) hS (Or.inl ⟨by rfl, ?_⟩) ?_
            rotate_left
            · intro W hW
              skip
              clear hW
              simp only [List.getElem_cons_zero, List.getElem_cons_succ]
              go_simp
              first | done | with_reducible rfl
            simp only [List.getElem_cons_zero, List.getElem_cons_succ, Act.put, List.setIfInBounds_toArray, List.set_cons_zero, List.set_cons_succ]
            refine call_at 40 (by decide) (Pi := (fun v _ => v = .int .i64 left)) (by kernel_rfl) (by rfl) (by simp only [List.getElem_cons_zero, List.getElem_cons_succ]; go_simp; first | done | rfl | exact ⟨rfl, rfl⟩) (call_one SK.mono hS (HRW.out _ hS)) ?_
            clear hS
            rintro w5 u hS rfl
            simp only [List.getElem_cons_zero, List.getElem_cons_succ, Act.put, List.setIfInBounds_toArray, List.set_cons_zero, List.set_cons_succ]
            refine take_at 42 (by decide) (v := ?_) (by kernel_rfl) (by kernel_rfl) (by kernel_rfl) (fun _ _ _ h => h) hS (Or.inl ⟨by rfl, ?_⟩) ?_
            rotate_left
            · intro W hW
              skip
              clear hW
              simp only [List.getElem_cons_zero, List.getElem_cons_succ]
              go_simp
              first | done | with_reducible rfl
            simp only [List.getElem_cons_zero, List.getElem_cons_succ, Act.put, List.setIfInBounds_toArray, List.set_cons_zero, List.set_cons_succ]
            refine take_at 43 (by decide) (v := ?_) (by kernel_rfl) (by kernel_rfl) (by kernel_rfl) (fun _ _ _ h => h) hS (Or.inl ⟨by rfl, ?_⟩) ?_
            rotate_left
            · intro W hW
              skip
              clear hW
              simp only [List.getElem_cons_zero, List.getElem_cons_succ]
              go_simp
              first | done | with_reducible rfl
            simp only [List.getElem_cons_zero, List.getElem_cons_succ, Act.put, List.setIfInBounds_toArray, List.set_cons_zero, List.set_cons_succ]
            refine wpAnyH_done (by kernel_rfl) ?_ _
            have hwl : wrap64 (left - dpr) = left - dpr := Ln.wrap_in (by omega) (by omega)
            have HWL := Lib.hid hwl
            clear hwl
            have e2 := hS.1.2.c2
            have cw5 := Ln.bl2 hS.2 cwq
            go_wp2_with fail
            go_roundg (gk - 1)
            case measure => omega
            case rel => exact ⟨k + 1, by omega, by go_num, An.int_eq (by have hq := HL1.out; have hq2 := HWL.out; omega), cw5⟩
        · have hkn : k = n := by omega
          subst hkn
          have hle := HEND.out
          rw [← HNN.out] at hle
          rw [hle]
          clear hle
          have l5 := kt.c5
          go_wp2_with fail
          refine (lives_any _ hS).mono ?_
          rintro e wl ⟨rfl, hb⟩
          have cwl := Ln.bl2 (Ln.bl2 hb cwr) cw3
          go_wp2_with fail
          go_ret
          exact ⟨rfl, cwl⟩
set_option maxHeartbeats 16000000 in
theorem level_walk (t : Tm) (c : Cl) (wa ha : Option Addr) (wc hc : Nat) (hcu : t.cur.size ≤ maxLen) (w : World) (h : CalIn w c wa ha) (hs : Rd.Stp w) : Calls Tryd.prog 8 #[(.agg #[.int .i64 (t).me, .int .i64 (t).pr, .int .i64 (t).ppm, .int .i64 (t).stt, .int .i64 (t).ev, .int .i64 (t).ct, .int .i64 (t).ba, .int .i64 (t).mo, .int .i64 (t).pen, .int .i64 (t).fe, .string (t).cal, .string (t).cur]), (.agg #[.string (c).nm, .slice wa (c).wk.length wc, .slice ha (c).hol.length hc])] w fun e w' => e = .returned (.bool true) ∧ Below w.heap.size w w' := by
  have cw : Below w.heap.size w ((w.alloc (.cells #[.int .i64 (t).me, .int .i64 (t).pr, .int .i64 (t).ppm, .int .i64 (t).stt, .int .i64 (t).ev, .int .i64 (t).ct, .int .i64 (t).ba, .int .i64 (t).mo, .int .i64 (t).pen, .int .i64 (t).fe, .string (t).cal, .string (t).cur] 23)).alloc (.cells #[.string c.nm, .slice wa c.wk.length wc, .slice ha c.hol.length hc] 26)) := ((Below.refl _ _).alloc (Nat.le_refl _) _).alloc (by simp) _
  have kt : Bk.Blk ((w.alloc (.cells #[.int .i64 (t).me, .int .i64 (t).pr, .int .i64 (t).ppm, .int .i64 (t).stt, .int .i64 (t).ev, .int .i64 (t).ct, .int .i64 (t).ba, .int .i64 (t).mo, .int .i64 (t).pen, .int .i64 (t).fe, .string (t).cal, .string (t).cur] 23)).alloc (.cells #[.string c.nm, .slice wa c.wk.length wc, .slice ha c.hol.length hc] 26)) w.heap.size #[.int .i64 (t).me, .int .i64 (t).pr, .int .i64 (t).ppm, .int .i64 (t).stt, .int .i64 (t).ev, .int .i64 (t).ct, .int .i64 (t).ba, .int .i64 (t).mo, .int .i64 (t).pen, .int .i64 (t).fe, .string (t).cal, .string (t).cur] 23 := Bk.Blk.nw20
  have kc : Bk.Blk ((w.alloc (.cells #[.int .i64 (t).me, .int .i64 (t).pr, .int .i64 (t).ppm, .int .i64 (t).stt, .int .i64 (t).ev, .int .i64 (t).ct, .int .i64 (t).ba, .int .i64 (t).mo, .int .i64 (t).pen, .int .i64 (t).fe, .string (t).cal, .string (t).cur] 23)).alloc (.cells #[.string c.nm, .slice wa c.wk.length wc, .slice ha c.hol.length hc] 26)) (w.heap.size + 1) #[.string c.nm, .slice wa c.wk.length wc, .slice ha c.hol.length hc] 26 := Bk.Blk.nw21
  have hi := h.later cw
  have hS := hs.of cw
  have hn1 := h.wk.1
  have hn2 := h.hol.1
  clear h hs
  go_enter Tryd.func8, Tryd.ntmps8
  go_upto_region 1 with fail
  generalize ((w.alloc (.cells #[.int .i64 (t).me, .int .i64 (t).pr, .int .i64 (t).ppm, .int .i64 (t).stt, .int .i64 (t).ev, .int .i64 (t).ct, .int .i64 (t).ba, .int .i64 (t).mo, .int .i64 (t).pen, .int .i64 (t).fe, .string (t).cal, .string (t).cur] 23)).alloc (.cells #[.string c.nm, .slice wa c.wk.length wc, .slice ha c.hol.length hc] 26)) = w1 at *
  have cw1 := cw
  clear cw
  have l0 := kt.c0
  have l1 := kt.c1
  have l2 := kt.c2
  have l3 := kt.c3
  have l4 := kt.c4
  have l5 := kt.c5
  have l6 := kt.c6
  have l7 := kt.c7
  have l8 := kt.c8
  have l9 := kt.c9
  have l10 := kt.c10
  have l11 := kt.c11
  have m0 := kc.c0
  have m1 := kc.c1
  have m2 := kc.c2
  go_wp2_with fail
  clear l0 l1 l2 l3 l4 l5 l6 l7 l8 l9 l10 l11 m0 m1 m2
  refine (few_any t c wa ha wc hc _ hn1 hn2).mono ?_
  rintro e w2 ⟨b, rfl, hb⟩
  replace kt := kt.later hb
  replace kc := kc.later hb
  replace hi := hi.later hb
  replace hS := hS.of hb
  have cw2 := bl2 hb cw1
  clear hb cw1
  cases b
  · go_wp2_with fail
    refine (lives_any _ hS).mono ?_
    rintro e wl ⟨rfl, hb⟩
    have cwl := bl2 hb cw2
    clear hb cw2
    go_wp2_with fail
    go_ret
    exact ⟨rfl, cwl⟩
  · by_cases h1 : t.me = 1
    · have g2 : (t.me != 1) = false := by simp [h1]
      have han : annB t = true := by unfold annB; rw [h1]; rfl
      clear h1
      have HAN := Lib.hid han
      clear han
      have l0 := kt.c0
      have l1 := kt.c1
      have l2 := kt.c2
      have l3 := kt.c3
      have l4 := kt.c4
      have l5 := kt.c5
      have l6 := kt.c6
      have l7 := kt.c7
      have l8 := kt.c8
      have l9 := kt.c9
      have l10 := kt.c10
      have l11 := kt.c11
      have m0 := kc.c0
      have m1 := kc.c1
      have m2 := kc.c2
      go_wp2_with fail
      clear l0 l1 l2 l3 l4 l5 l6 l7 l8 l9 l10 l11 m0 m1 m2
      refine (build_any t c wa ha wc hc _ hi hcu hS).mono ?_
      rintro e w3 ⟨da, dc, rfl, hd, _, hb⟩
      replace kt := kt.later hb
      replace kc := kc.later hb
      replace hi := hi.later hb
      replace hS := hS.of hb
      have cw3 := bl2 hb cw2
      clear hb cw2
      by_cases he : blE t c ≠ 0
      · have g1 : (blE t c != 0) = true := by simpa using he
        generalize blV t c = ls at *
        generalize blE t c = E at g1 ⊢
        clear hd he
        go_wp2_with fail
        refine (lives_any _ hS).mono ?_
        rintro e wl ⟨rfl, hb⟩
        have cwl := bl2 hb cw3
        clear hb cw3
        go_wp2_with fail
        go_ret
        exact ⟨rfl, cwl⟩
      · have he0 : blE t c = 0 := Classical.byContradiction he
        have g1 : (blE t c != 0) = false := by rw [he0]; rfl
        have HE := Lib.hid he0
        obtain ⟨_, htk, _, hpe, _⟩ := bl_facts he0
        have hpr := htk.pr
        have hct := htk.ct
        have hb0 := htk.ba0
        have hb1 := htk.ba1
        have hlen := bl_len he0
        clear he he0
        generalize blE t c = E at g1 ⊢
        have HDAT := Lib.hid (fun (k : Nat) (hk : k < t.ct.toNat) => rep_at HE.out hk)
        have HLV := Lib.hid (fun (h2 : 2 ≤ t.ct) (k : Nat) => level htk HAN.out hpe h2 (i := k))
        clear htk hpe
        obtain ⟨ls, hls⟩ : ∃ ls, ls = blV t c := ⟨_, rfl⟩
        rw [← hls] at hd hlen ⊢
        have HLS := Lib.hid hls
        clear hls
        obtain ⟨n, hnn⟩ : ∃ n, n = t.ct.toNat := ⟨_, rfl⟩
        rw [← hnn] at hlen
        have hn1 : (n : Int) ≤ t.ct := by omega
        have hn2 : t.ct ≤ n := by omega
        have HNN := Lib.hid hnn
        clear hnn
        rw [hlen]
        have HLEN := Lib.hid hlen
        clear hlen
        by_cases hn : n < 2
        · go_wp2_with fail
          refine (lives_any _ hS).mono ?_
          rintro e wl ⟨rfl, hb⟩
          have cwl := bl2 hb cw3
          clear hb cw3
          go_wp2_with fail
          go_ret
          exact ⟨rfl, cwl⟩
        · obtain ⟨x1, x2, x3, _, x5, _, _⟩ := HDAT.out 0 (by have := HNN.out; omega)
          rw [← HLS.out] at x1
          obtain ⟨bb, off, rfl, hcc⟩ := hd.2 (by rw [HLEN.out]; omega)
          have hck := hcc 0 (by rw [HLEN.out]; omega)
          rw [x1, Nat.zero_mul] at hck
          have q2 := hck.2.2.1
          have q3 := hck.2.2.2
          clear hck hcc x1
          have HL2 := Lib.hid (HLV.out (by omega))
          have HN0 := Lib.hid (show nAt t 0 = (duAt t c 0).pr + (duAt t c 0).it from rfl)
          have hle : lf t (payV t) 0 = t.pr := rfl
          rw [hle] at x2
          clear HLV hle x5
          generalize (duAt t c 0).pr = p0 at *
          generalize (duAt t c 0).it = i0 at *
          have hw0 : wrap64 (p0 + i0) = p0 + i0 := Ln.wrap_in (by omega) (by omega)
          have hw0' : IntKind.i64.wrap (p0 + i0) = p0 + i0 := by rw [IntKind.wrap_i64]; omega
          have l1 := kt.c1
          go_wp2_with fail
          go_region
          all_goals (have l1' := kt.drew.c1; go_wp2_with fail)
          have cwd : Below w3.heap.size w3 w3.drew := (Below.refl _ _).drew
          go_loopg [8, 9] n (RpR w3 t n)
          case atStart => exact ⟨0, by omega, rfl, rfl, cwd⟩
          case round =>
            clear l1 l1' q2 q3
            obtain ⟨k, hk, rfl, rfl, cwr⟩ := hrel
            replace kt := kt.later cwr
            replace hS := hS.of cwr
            replace hd := hd.later cwr
            by_cases hlt : k < n
            · obtain ⟨x1, y2, y3, _, y5, y6, _⟩ := HDAT.out k (by have := HNN.out; omega)
              rw [← HLS.out] at x1
              obtain ⟨bb', off', hae, hcc⟩ := hd.2 (by rw [HLEN.out]; omega)
              obtain ⟨rfl, rfl⟩ : bb = bb' ∧ off = off' := by simpa using hae
              have hck := hcc k (by rw [HLEN.out]; omega)
              rw [x1] at hck
              have c2 := hck.2.2.1
              have c3 := hck.2.2.2
              have HNK := Lib.hid (show nAt t k = (duAt t c k).pr + (duAt t c k).it from rfl)
              clear hck hcc x1 hae
              have HL6 := Lib.hid y6
              have hl2 := HL2.out k
              rw [HNK.out, HN0.out, y6] at hl2
              have HL3 := Lib.hid hl2
              clear hl2 y6
              generalize (duAt t c k).pr = pk at *
              generalize (duAt t c k).it = ik at *
              generalize hlf : lf t (payV t) k = left at y2 y5 HL3 HL6 ⊢
              clear hlf
              have l6 := kt.c6
              have hwk : wrap64 (pk + ik) = pk + ik := Ln.wrap_in (by omega) (by omega)
              have hwk' : IntKind.i64.wrap (pk + ik) = pk + ik := by rw [IntKind.wrap_i64]; omega
              have hwl : wrap64 (left - pk) = left - pk := Ln.wrap_in (by omega) (by omega)
              have hwb : wrap64 (p0 + i0 + t.ba) = p0 + i0 + t.ba := Ln.wrap_in (by omega) (by omega)
              by_cases hkl : k + 1 = n
              · have hl4 := HL3.out.1 (by have := HNN.out; omega)
                have gA : ((k : Int) + 1 == (n : Int)) = true := by simp; omega
                have gB : ¬ ((k : Int) + 1 < n) := by omega
                have gC : decide (p0 + i0 + t.ba < pk + ik) = false := decide_eq_false (by omega)
                clear hl4 hkl
                go_wp2_with fail
                go_region
                all_goals (have l6' := kt.drew.c6; go_wp2_with fail)
                go_roundg (gk - 1)
                case measure => omega
                case rel => exact ⟨k + 1, by omega, by go_num, An.int_eq (by have hq := HL6.out; omega), cwr.drew⟩
              · have hl4 := HL3.out.2 (by have := HNN.out; omega)
                have gA : ((k : Int) + 1 == (n : Int)) = false := by simp; omega
                have gB : (k : Int) + 1 < n := by omega
                by_cases hs : pk + ik = p0 + i0
                · clear hl4
                  have gD : (pk + ik != p0 + i0) = false := by simp [hs]
                  clear hs
                  go_wp2_with fail
                  go_region
                  all_goals (have l6' := kt.drew.c6; go_wp2_with fail)
                  go_roundg (gk - 1)
                  case measure => omega
                  case rel => exact ⟨k + 1, by omega, by go_num, An.int_eq (by have hq := HL6.out; omega), cwr.drew⟩
                · replace hl4 : left - pk = 0 ∧ pk + ik ≤ p0 + i0 := by omega
                  have gD : (pk + ik != p0 + i0) = true := by simp [hs]
                  have gE : decide (0 < left - pk) = false := decide_eq_false (by omega)
                  have gF : decide (p0 + i0 < pk + ik) = false := decide_eq_false (by omega)
                  have gG : decide (pk < left) = false := decide_eq_false (by omega)
                  have gH : ¬ (pk < left) := by omega
                  clear hs hl4
                  go_wp2_with fail
                  go_region
                  all_goals (have l6' := kt.drew.c6; go_wp2_with fail)
                  go_roundg (gk - 1)
                  case measure => omega
                  case rel => exact ⟨k + 1, by omega, by go_num, An.int_eq (by have hq := HL6.out; omega), cwr.drew⟩
            · go_wp2_with fail
              refine (lives_any _ hS).mono ?_
              rintro e wl ⟨rfl, hb⟩
              have cwl := Ln.bl2 (Ln.bl2 hb cwr) cw3
              go_wp2_with fail
              go_ret
              exact ⟨rfl, cwl⟩
    · by_cases h4 : t.me = 4
      · have g2 : (t.me != 1) = true := by simp [h1]
        have g3 : (t.me != 4) = false := by simp [h4]
        have han : annB t = true := by unfold annB; rw [h4]; rfl
        clear h1 h4
        have HAN := Lib.hid han
        clear han
        have l0 := kt.c0
        have l1 := kt.c1
        have l2 := kt.c2
        have l3 := kt.c3
        have l4 := kt.c4
        have l5 := kt.c5
        have l6 := kt.c6
        have l7 := kt.c7
        have l8 := kt.c8
        have l9 := kt.c9
        have l10 := kt.c10
        have l11 := kt.c11
        have m0 := kc.c0
        have m1 := kc.c1
        have m2 := kc.c2
        go_wp2_with fail
        clear l0 l1 l2 l3 l4 l5 l6 l7 l8 l9 l10 l11 m0 m1 m2
        refine (build_any t c wa ha wc hc _ hi hcu hS).mono ?_
        rintro e w3 ⟨da, dc, rfl, hd, _, hb⟩
        replace kt := kt.later hb
        replace kc := kc.later hb
        replace hi := hi.later hb
        replace hS := hS.of hb
        have cw3 := bl2 hb cw2
        clear hb cw2
        by_cases he : blE t c ≠ 0
        · have g1 : (blE t c != 0) = true := by simpa using he
          generalize blV t c = ls at *
          generalize blE t c = E at g1 ⊢
          clear hd he
          go_wp2_with fail
          refine (lives_any _ hS).mono ?_
          rintro e wl ⟨rfl, hb⟩
          have cwl := bl2 hb cw3
          clear hb cw3
          go_wp2_with fail
          go_ret
          exact ⟨rfl, cwl⟩
        · have he0 : blE t c = 0 := Classical.byContradiction he
          have g1 : (blE t c != 0) = false := by rw [he0]; rfl
          have HE := Lib.hid he0
          obtain ⟨_, htk, _, hpe, _⟩ := bl_facts he0
          have hpr := htk.pr
          have hct := htk.ct
          have hb0 := htk.ba0
          have hb1 := htk.ba1
          have hlen := bl_len he0
          clear he he0
          generalize blE t c = E at g1 ⊢
          have HDAT := Lib.hid (fun (k : Nat) (hk : k < t.ct.toNat) => rep_at HE.out hk)
          have HLV := Lib.hid (fun (h2 : 2 ≤ t.ct) (k : Nat) => level htk HAN.out hpe h2 (i := k))
          clear htk hpe
          obtain ⟨ls, hls⟩ : ∃ ls, ls = blV t c := ⟨_, rfl⟩
          rw [← hls] at hd hlen ⊢
          have HLS := Lib.hid hls
          clear hls
          obtain ⟨n, hnn⟩ : ∃ n, n = t.ct.toNat := ⟨_, rfl⟩
          rw [← hnn] at hlen
          have hn1 : (n : Int) ≤ t.ct := by omega
          have hn2 : t.ct ≤ n := by omega
          have HNN := Lib.hid hnn
          clear hnn
          rw [hlen]
          have HLEN := Lib.hid hlen
          clear hlen
          by_cases hn : n < 2
          · go_wp2_with fail
            refine (lives_any _ hS).mono ?_
            rintro e wl ⟨rfl, hb⟩
            have cwl := bl2 hb cw3
            clear hb cw3
            go_wp2_with fail
            go_ret
            exact ⟨rfl, cwl⟩
          · obtain ⟨x1, x2, x3, _, x5, _, _⟩ := HDAT.out 0 (by have := HNN.out; omega)
            rw [← HLS.out] at x1
            obtain ⟨bb, off, rfl, hcc⟩ := hd.2 (by rw [HLEN.out]; omega)
            have hck := hcc 0 (by rw [HLEN.out]; omega)
            rw [x1, Nat.zero_mul] at hck
            have q2 := hck.2.2.1
            have q3 := hck.2.2.2
            clear hck hcc x1
            have HL2 := Lib.hid (HLV.out (by omega))
            have HN0 := Lib.hid (show nAt t 0 = (duAt t c 0).pr + (duAt t c 0).it from rfl)
            have hle : lf t (payV t) 0 = t.pr := rfl
            rw [hle] at x2
            clear HLV hle x5
            generalize (duAt t c 0).pr = p0 at *
            generalize (duAt t c 0).it = i0 at *
            have hw0 : wrap64 (p0 + i0) = p0 + i0 := Ln.wrap_in (by omega) (by omega)
            have hw0' : IntKind.i64.wrap (p0 + i0) = p0 + i0 := by rw [IntKind.wrap_i64]; omega
            have l1 := kt.c1
            go_wp2_with fail
            go_region
            all_goals (have l1' := kt.drew.c1; go_wp2_with fail)
            have cwd : Below w3.heap.size w3 w3.drew := (Below.refl _ _).drew
            go_loopg [8, 9] n (RpR w3 t n)
            case atStart => exact ⟨0, by omega, rfl, rfl, cwd⟩
            case round =>
              clear l1 l1' q2 q3
              obtain ⟨k, hk, rfl, rfl, cwr⟩ := hrel
              replace kt := kt.later cwr
              replace hS := hS.of cwr
              replace hd := hd.later cwr
              by_cases hlt : k < n
              · obtain ⟨x1, y2, y3, _, y5, y6, _⟩ := HDAT.out k (by have := HNN.out; omega)
                rw [← HLS.out] at x1
                obtain ⟨bb', off', hae, hcc⟩ := hd.2 (by rw [HLEN.out]; omega)
                obtain ⟨rfl, rfl⟩ : bb = bb' ∧ off = off' := by simpa using hae
                have hck := hcc k (by rw [HLEN.out]; omega)
                rw [x1] at hck
                have c2 := hck.2.2.1
                have c3 := hck.2.2.2
                have HNK := Lib.hid (show nAt t k = (duAt t c k).pr + (duAt t c k).it from rfl)
                clear hck hcc x1 hae
                have HL6 := Lib.hid y6
                have hl2 := HL2.out k
                rw [HNK.out, HN0.out, y6] at hl2
                have HL3 := Lib.hid hl2
                clear hl2 y6
                generalize (duAt t c k).pr = pk at *
                generalize (duAt t c k).it = ik at *
                generalize hlf : lf t (payV t) k = left at y2 y5 HL3 HL6 ⊢
                clear hlf
                have l6 := kt.c6
                have hwk : wrap64 (pk + ik) = pk + ik := Ln.wrap_in (by omega) (by omega)
                have hwk' : IntKind.i64.wrap (pk + ik) = pk + ik := by rw [IntKind.wrap_i64]; omega
                have hwl : wrap64 (left - pk) = left - pk := Ln.wrap_in (by omega) (by omega)
                have hwb : wrap64 (p0 + i0 + t.ba) = p0 + i0 + t.ba := Ln.wrap_in (by omega) (by omega)
                by_cases hkl : k + 1 = n
                · have hl4 := HL3.out.1 (by have := HNN.out; omega)
                  have gA : ((k : Int) + 1 == (n : Int)) = true := by simp; omega
                  have gB : ¬ ((k : Int) + 1 < n) := by omega
                  have gC : decide (p0 + i0 + t.ba < pk + ik) = false := decide_eq_false (by omega)
                  clear hl4 hkl
                  go_wp2_with fail
                  go_region
                  all_goals (have l6' := kt.drew.c6; go_wp2_with fail)
                  go_roundg (gk - 1)
                  case measure => omega
                  case rel => exact ⟨k + 1, by omega, by go_num, An.int_eq (by have hq := HL6.out; omega), cwr.drew⟩
                · have hl4 := HL3.out.2 (by have := HNN.out; omega)
                  have gA : ((k : Int) + 1 == (n : Int)) = false := by simp; omega
                  have gB : (k : Int) + 1 < n := by omega
                  by_cases hs : pk + ik = p0 + i0
                  · clear hl4
                    have gD : (pk + ik != p0 + i0) = false := by simp [hs]
                    clear hs
                    go_wp2_with fail
                    go_region
                    all_goals (have l6' := kt.drew.c6; go_wp2_with fail)
                    go_roundg (gk - 1)
                    case measure => omega
                    case rel => exact ⟨k + 1, by omega, by go_num, An.int_eq (by have hq := HL6.out; omega), cwr.drew⟩
                  · replace hl4 : left - pk = 0 ∧ pk + ik ≤ p0 + i0 := by omega
                    have gD : (pk + ik != p0 + i0) = true := by simp [hs]
                    have gE : decide (0 < left - pk) = false := decide_eq_false (by omega)
                    have gF : decide (p0 + i0 < pk + ik) = false := decide_eq_false (by omega)
                    have gG : decide (pk < left) = false := decide_eq_false (by omega)
                    have gH : ¬ (pk < left) := by omega
                    clear hs hl4
                    go_wp2_with fail
                    go_region
                    all_goals (have l6' := kt.drew.c6; go_wp2_with fail)
                    go_roundg (gk - 1)
                    case measure => omega
                    case rel => exact ⟨k + 1, by omega, by go_num, An.int_eq (by have hq := HL6.out; omega), cwr.drew⟩
              · go_wp2_with fail
                refine (lives_any _ hS).mono ?_
                rintro e wl ⟨rfl, hb⟩
                have cwl := Ln.bl2 (Ln.bl2 hb cwr) cw3
                go_wp2_with fail
                go_ret
                exact ⟨rfl, cwl⟩
      · have g2 : (t.me != 1) = true := by simp [h1]
        have g3 : (t.me != 4) = true := by simp [h4]
        have l0 := kt.c0
        have l1 := kt.c1
        have l2 := kt.c2
        have l3 := kt.c3
        have l4 := kt.c4
        have l5 := kt.c5
        have l6 := kt.c6
        have l7 := kt.c7
        have l8 := kt.c8
        have l9 := kt.c9
        have l10 := kt.c10
        have l11 := kt.c11
        have m0 := kc.c0
        have m1 := kc.c1
        have m2 := kc.c2
        go_wp2_with fail
        refine (lives_any _ hS).mono ?_
        rintro e wl ⟨rfl, hb⟩
        have cwl := bl2 hb cw2
        clear hb cw2
        go_wp2_with fail
        go_ret
        exact ⟨rfl, cwl⟩
end Go.Proofs.YtmdjikmpgckpbaaDoor.Kl
