/-
  Check of package loan.
-/
import Derived.Test.YtaibocobeibobaaLn3
import Derived.Laws.Rows
import Derived.Laws.Tables
import Derived.BigFrame
namespace Go.Proofs.Ytaibocobeibobaa.Ln
open Go.RowKit
open Go.Proofs.Ytaibocobeibobaa

/-- A load of a block known whole, under a guard that says yes. -/
theorem load_guarded {P : Program} {ops : Array Oper} {rest : List Oper} {o : Oper} {a : Act} {w : World} {Q : Exit → Act → World → Prop} (ty : TypeId) (x : Operand) (ho : o.op = .load ty x) (hw : Region.wanted o (yielded ops a.tmps) = true)
    (g : Nat) (hx : a.eval x = .pointer (some ⟨g, 0, none⟩)) (t : TypeId) (cs : Array Value) (fr : Nat × Nat) (d : TypeDesc) (hg : w.heap[g]? = some (.cells cs t fr))
    (hu : P.underlying ty = some d) (hd : (match d with | .struct _ | .array _ _ => true | _ => false) = true) (hi : (P.info? ty).map (·.size) = some cs.size)
    (h : wpList P ops Q rest (a.put o.dst (.agg cs)) w) : wpList P ops Q (o :: rest) a w :=
  BigFrame.wpList_want hw fun _ hK => wp_load_row ty x ho g hx t cs fr d hg hu hd hi (hK _ _ h)
theorem chk_1 {l : Lo} (h : rangedB l = false) : chk l = 1 := by unfold chk; rw [h]; rfl
theorem chk_10 {l : Lo} (h : rangedB l = true) (h2 : ordB l.ds = false) : chk l = 10 := by unfold chk; rw [h, h2]; rfl
theorem chk_25 {l : Lo} (h : rangedB l = true) (h2 : ordB l.ds = true) (h3 : sumsB l = false) : chk l = 25 := by unfold chk; rw [h, h2, h3]; rfl
theorem chk_0 {l : Lo} (h : rangedB l = true) (h2 : ordB l.ds = true) (h3 : sumsB l = true) : chk l = 0 := by unfold chk; rw [h, h2, h3]; rfl
theorem sums_parts {l : Lo} (h : sumsB l = true) : l.pp ≤ P l.ds ∧ l.pi ≤ I l.ds ∧ l.rcv ≤ l.loss ∧ (l.cs.length ≠ 0 ∨ P l.ds = l.tm.pr) ∧ (l.st = 3 ∨ leftB l = decide (l.st = 1)) ∧ (l.st = 3 ∨ (l.loss = 0 ∧ l.rcv = 0)) := by
  simp only [sumsB, Bool.and_eq_true, Bool.or_eq_true, decide_eq_true_eq, beq_iff_eq] at h
  obtain ⟨⟨⟨⟨⟨c1, c2⟩, c3⟩, c4⟩, c5⟩, c6⟩ := h
  exact ⟨c1, c2, c3, c4, c5, c6⟩
theorem sums_mk {l : Lo} (h : l.pp ≤ P l.ds ∧ l.pi ≤ I l.ds ∧ l.rcv ≤ l.loss ∧ (l.cs.length ≠ 0 ∨ P l.ds = l.tm.pr) ∧ (l.st = 3 ∨ leftB l = decide (l.st = 1)) ∧ (l.st = 3 ∨ (l.loss = 0 ∧ l.rcv = 0))) : sumsB l = true := by
  obtain ⟨c1, c2, c3, c4, c5, c6⟩ := h
  simp only [sumsB, Bool.and_eq_true, Bool.or_eq_true, decide_eq_true_eq, beq_iff_eq]
  exact ⟨⟨⟨⟨⟨c1, c2⟩, c3⟩, c4⟩, c5⟩, c6⟩
theorem sums_bad {l : Lo} (h : ¬ (sumsB l = true)) : sumsB l = false := by cases hv : sumsB l <;> simp_all
/-- The ways through the last rules of Check: what each finds (25 or 0). f: something is left; p, i: the sums; n: how many changes. -/
inductive Way (pp p pi i rcv loss pr st : Int) (n : Nat) (f : Bool) : Int → Prop where
  | a : p < pp → Way pp p pi i rcv loss pr st n f 25
  | b : pp ≤ p → i < pi → Way pp p pi i rcv loss pr st n f 25
  | c : pp ≤ p → pi ≤ i → loss < rcv → Way pp p pi i rcv loss pr st n f 25
  | d : pp ≤ p → pi ≤ i → rcv ≤ loss → n = 0 → p ≠ pr → Way pp p pi i rcv loss pr st n f 25
  | e : pp ≤ p → pi ≤ i → rcv ≤ loss → (n = 0 ∧ p = pr) ∨ n ≠ 0 → (st = 2 ∧ f = true) ∨ (st = 1 ∧ f = false) → Way pp p pi i rcv loss pr st n f 25
  | g : pp ≤ p → pi ≤ i → rcv ≤ loss → (n = 0 ∧ p = pr) ∨ n ≠ 0 → (st = 2 ∧ f = false) ∨ (st = 1 ∧ f = true) → (loss ≠ 0) ∨ (loss = 0 ∧ rcv ≠ 0) → Way pp p pi i rcv loss pr st n f 25
  | k : pp ≤ p → pi ≤ i → rcv ≤ loss → (n = 0 ∧ p = pr) ∨ n ≠ 0 → (st = 2 ∧ f = false) ∨ (st = 1 ∧ f = true) → loss = 0 → rcv = 0 → Way pp p pi i rcv loss pr st n f 0
  | m : pp ≤ p → pi ≤ i → rcv ≤ loss → (n = 0 ∧ p = pr) ∨ n ≠ 0 → st = 3 → Way pp p pi i rcv loss pr st n f 0
theorem way_of (l : Lo) (h : rangedB l = true) (h2 : ordB l.ds = true) : Way l.pp (P l.ds) l.pi (I l.ds) l.rcv l.loss l.tm.pr l.st l.cs.length (leftB l) (chk l) := by
  have hr := rg_no h
  by_cases ca : P l.ds < l.pp
  · rw [chk_25 h h2 (sums_bad fun hh => by have := (sums_parts hh).1; omega)]; exact .a ca
  by_cases cb : I l.ds < l.pi
  · rw [chk_25 h h2 (sums_bad fun hh => by have := (sums_parts hh).2.1; omega)]; exact .b (by omega) cb
  by_cases cc : l.loss < l.rcv
  · rw [chk_25 h h2 (sums_bad fun hh => by have := (sums_parts hh).2.2.1; omega)]; exact .c (by omega) (by omega) cc
  by_cases cd : l.cs.length = 0 ∧ P l.ds ≠ l.tm.pr
  · rw [chk_25 h h2 (sums_bad fun hh => by rcases (sums_parts hh).2.2.2.1 with h | h; exact h cd.1; exact cd.2 h)]; exact .d (by omega) (by omega) (by omega) cd.1 cd.2
  have ce : (l.cs.length = 0 ∧ P l.ds = l.tm.pr) ∨ l.cs.length ≠ 0 := by omega
  by_cases cf : l.st = 3
  · rw [chk_0 h h2 (sums_mk ⟨by omega, by omega, by omega, by omega, .inl cf, .inl cf⟩)]; exact .m (by omega) (by omega) (by omega) ce cf
  cases hv : leftB l
  · by_cases cg : l.st = 1
    · rw [chk_25 h h2 (sums_bad fun hh => by
        rcases (sums_parts hh).2.2.2.2.1 with h | h
        · exact cf h
        · rw [hv, cg] at h; simp at h)]
      exact .e (by omega) (by omega) (by omega) ce (.inr ⟨cg, rfl⟩)
    · have cs : l.st = 2 := by omega
      by_cases cl : l.loss = 0 ∧ l.rcv = 0
      · rw [chk_0 h h2 (sums_mk ⟨by omega, by omega, by omega, by omega, .inr (by rw [hv, cs]; rfl), .inr cl⟩)]; exact .k (by omega) (by omega) (by omega) ce (.inl ⟨cs, rfl⟩) cl.1 cl.2
      · rw [chk_25 h h2 (sums_bad fun hh => by rcases (sums_parts hh).2.2.2.2.2 with h | h; exact cf h; exact cl h)]; exact .g (by omega) (by omega) (by omega) ce (.inl ⟨cs, rfl⟩) (by omega)
  · by_cases cg : l.st = 2
    · rw [chk_25 h h2 (sums_bad fun hh => by
        rcases (sums_parts hh).2.2.2.2.1 with h | h
        · exact cf h
        · rw [hv, cg] at h; simp at h)]
      exact .e (by omega) (by omega) (by omega) ce (.inl ⟨cg, rfl⟩)
    · have cs : l.st = 1 := by omega
      by_cases cl : l.loss = 0 ∧ l.rcv = 0
      · rw [chk_0 h h2 (sums_mk ⟨by omega, by omega, by omega, by omega, .inr (by rw [hv, cs]; rfl), .inr cl⟩)]; exact .k (by omega) (by omega) (by omega) ce (.inr ⟨cs, rfl⟩) cl.1 cl.2
      · rw [chk_25 h h2 (sums_bad fun hh => by rcases (sums_parts hh).2.2.2.2.2 with h | h; exact cf h; exact cl h)]; exact .g (by omega) (by omega) (by omega) ce (.inr ⟨cs, rfl⟩) (by omega)

set_option maxHeartbeats 16000000 in
set_option maxRecDepth 100000 in
theorem check_r (l : Lo) (da ca : Option Addr) (dk ck : Nat) (w : World) (h : DuesIn w da l.ds) (hr : rangedB l = false) :
    Calls Try.prog 8 #[(.agg #[.int .i64 (l).id, .int .i64 (l).ac, .int .i64 (l).st, .int .i64 (l).pp, .int .i64 (l).pi, .int .i64 (l).fee, .int .i64 (l).pen, .int .i64 (l).chg, .int .i64 (l).prov, .int .i64 (l).loss, .int .i64 (l).rcv, .int .i64 ((l).tm).me, .int .i64 ((l).tm).pr, .int .i64 ((l).tm).ppm, .int .i64 ((l).tm).stt, .int .i64 ((l).tm).ev, .int .i64 ((l).tm).ct, .int .i64 ((l).tm).ba, .int .i64 ((l).tm).mo, .int .i64 ((l).tm).pen, .int .i64 ((l).tm).fe, .string ((l).tm).cal, .string ((l).tm).cur, .slice da (l).ds.length dk, .slice ca (l).cs.length ck])] w fun e w' => e = .returned (.int .i64 (chk l)) ∧ Below w.heap.size w w' := by
  have b0 := Below.refl w.heap.size w
  have HN := Lib.hid (nums_any l da ca dk ck)
  have HO := Lib.hid (ord_any da dk l.ds)
  have HS := Lib.hid (sums_any da dk l.ds)
  have HL := Lib.hid (left_any l da ca dk ck)
  have HD := Lib.hid h
  have bb : Below w.heap.size w (w.alloc (.cells #[.int .i64 (l).id, .int .i64 (l).ac, .int .i64 (l).st, .int .i64 (l).pp, .int .i64 (l).pi, .int .i64 (l).fee, .int .i64 (l).pen, .int .i64 (l).chg, .int .i64 (l).prov, .int .i64 (l).loss, .int .i64 (l).rcv, .int .i64 ((l).tm).me, .int .i64 ((l).tm).pr, .int .i64 ((l).tm).ppm, .int .i64 ((l).tm).stt, .int .i64 ((l).tm).ev, .int .i64 ((l).tm).ct, .int .i64 ((l).tm).ba, .int .i64 ((l).tm).mo, .int .i64 ((l).tm).pen, .int .i64 ((l).tm).fe, .string ((l).tm).cal, .string ((l).tm).cur, .slice da (l).ds.length dk, .slice ca (l).cs.length ck] 27)) := b0.alloc (Nat.le_refl _) _
  clear h
  have HF := Lib.hid (chk_1 hr)
  have HV := Lib.hid hr
  clear hr
  go_enter Try.func8, Try.ntmps8
  go_wp2_with (refine wpList_load_row rfl 27 _ rfl _ rfl _ _ _ _ (Bk.Blk.nw10) Try.underlying27 rfl (by kernel_rfl) ?_)
  refine (HN.out _ (HD.out.later bb)).mono ?_
  rintro e w1 ⟨rfl, hb1⟩
  have hk := Bk.Blk.later (g := w.heap.size) hb1 (by first | with_reducible exact Bk.Blk.nw10 | with_reducible exact Bk.Blk.nw20 | with_reducible exact Bk.Blk.nw21 | with_reducible exact Bk.Blk.nw30 | with_reducible exact Bk.Blk.nw31 | with_reducible exact Bk.Blk.nw32 | with_reducible exact Bk.Blk.nw40 | with_reducible exact Bk.Blk.nw41 | with_reducible exact Bk.Blk.nw42 | with_reducible exact Bk.Blk.nw43)
  have b1 := bl2 hb1 bb
  have z1 := b1.size
  clear hb1
  rw [HV.out]
  go_wp2_with fail
  go_ret
  exact ⟨by rw [HF.out]; rfl, b1⟩
set_option maxHeartbeats 16000000 in
set_option maxRecDepth 100000 in
theorem check_any (l : Lo) (da ca : Option Addr) (dk ck : Nat) (w : World) (h : DuesIn w da l.ds) :
    Calls Try.prog 8 #[(.agg #[.int .i64 (l).id, .int .i64 (l).ac, .int .i64 (l).st, .int .i64 (l).pp, .int .i64 (l).pi, .int .i64 (l).fee, .int .i64 (l).pen, .int .i64 (l).chg, .int .i64 (l).prov, .int .i64 (l).loss, .int .i64 (l).rcv, .int .i64 ((l).tm).me, .int .i64 ((l).tm).pr, .int .i64 ((l).tm).ppm, .int .i64 ((l).tm).stt, .int .i64 ((l).tm).ev, .int .i64 ((l).tm).ct, .int .i64 ((l).tm).ba, .int .i64 ((l).tm).mo, .int .i64 ((l).tm).pen, .int .i64 ((l).tm).fe, .string ((l).tm).cal, .string ((l).tm).cur, .slice da (l).ds.length dk, .slice ca (l).cs.length ck])] w fun e w' => e = .returned (.int .i64 (chk l)) ∧ Below w.heap.size w w' := by
  cases hr : rangedB l
  · exact check_r l da ca dk ck w h hr
  · 
    have b0 := Below.refl w.heap.size w
    have HN := Lib.hid (nums_any l da ca dk ck)
    have HO := Lib.hid (ord_any da dk l.ds)
    have HS := Lib.hid (sums_any da dk l.ds)
    have HL := Lib.hid (left_any l da ca dk ck)
    have HD := Lib.hid h
    have bb : Below w.heap.size w (w.alloc (.cells #[.int .i64 (l).id, .int .i64 (l).ac, .int .i64 (l).st, .int .i64 (l).pp, .int .i64 (l).pi, .int .i64 (l).fee, .int .i64 (l).pen, .int .i64 (l).chg, .int .i64 (l).prov, .int .i64 (l).loss, .int .i64 (l).rcv, .int .i64 ((l).tm).me, .int .i64 ((l).tm).pr, .int .i64 ((l).tm).ppm, .int .i64 ((l).tm).stt, .int .i64 ((l).tm).ev, .int .i64 ((l).tm).ct, .int .i64 ((l).tm).ba, .int .i64 ((l).tm).mo, .int .i64 ((l).tm).pen, .int .i64 ((l).tm).fe, .string ((l).tm).cal, .string ((l).tm).cur, .slice da (l).ds.length dk, .slice ca (l).cs.length ck] 27)) := b0.alloc (Nat.le_refl _) _
    clear h
    cases ho : ordB l.ds
    · have HF := Lib.hid (chk_10 hr ho)
      have HV := Lib.hid hr
      have HU := Lib.hid ho
      clear hr ho
      go_enter Try.func8, Try.ntmps8
      go_wp2_with (refine wpList_load_row rfl 27 _ rfl _ rfl _ _ _ _ (Bk.Blk.nw10) Try.underlying27 rfl (by kernel_rfl) ?_)
      refine (HN.out _ (HD.out.later bb)).mono ?_
      rintro e w1 ⟨rfl, hb1⟩
      have hk := Bk.Blk.later (g := w.heap.size) hb1 (by first | with_reducible exact Bk.Blk.nw10 | with_reducible exact Bk.Blk.nw20 | with_reducible exact Bk.Blk.nw21 | with_reducible exact Bk.Blk.nw30 | with_reducible exact Bk.Blk.nw31 | with_reducible exact Bk.Blk.nw32 | with_reducible exact Bk.Blk.nw40 | with_reducible exact Bk.Blk.nw41 | with_reducible exact Bk.Blk.nw42 | with_reducible exact Bk.Blk.nw43)
      have b1 := bl2 hb1 bb
      have z1 := b1.size
      clear hb1
      rw [HV.out]
      have l23 := hk.c23
      go_wp2_with fail
      clear l23
      refine (HO.out _ (HD.out.later b1)).mono ?_
      rintro e w2 ⟨rfl, hb2⟩
      replace hk := hk.later hb2
      have b2 := bl2 hb2 b1
      have z2 := b2.size
      clear hb2
      rw [HU.out]
      go_wp2_with fail
      go_ret
      exact ⟨by rw [HF.out]; rfl, b2⟩
    · have hw := way_of l hr ho
      have HV := Lib.hid hr
      have HU := Lib.hid ho
      obtain ⟨c, hc⟩ : ∃ c, c = chk l := ⟨_, rfl⟩
      rw [← hc] at hw ⊢
      clear hr ho hc
      go_enter Try.func8, Try.ntmps8
      go_wp2_with (refine wpList_load_row rfl 27 _ rfl _ rfl _ _ _ _ (Bk.Blk.nw10) Try.underlying27 rfl (by kernel_rfl) ?_)
      refine (HN.out _ (HD.out.later bb)).mono ?_
      rintro e w1 ⟨rfl, hb1⟩
      have hk := Bk.Blk.later (g := w.heap.size) hb1 (by first | with_reducible exact Bk.Blk.nw10 | with_reducible exact Bk.Blk.nw20 | with_reducible exact Bk.Blk.nw21 | with_reducible exact Bk.Blk.nw30 | with_reducible exact Bk.Blk.nw31 | with_reducible exact Bk.Blk.nw32 | with_reducible exact Bk.Blk.nw40 | with_reducible exact Bk.Blk.nw41 | with_reducible exact Bk.Blk.nw42 | with_reducible exact Bk.Blk.nw43)
      have b1 := bl2 hb1 bb
      have z1 := b1.size
      clear hb1
      rw [HV.out]
      have l23 := hk.c23
      go_wp2_with fail
      clear l23
      refine (HO.out _ (HD.out.later b1)).mono ?_
      rintro e w2 ⟨rfl, hb2⟩
      replace hk := hk.later hb2
      have b2 := bl2 hb2 b1
      have z2 := b2.size
      clear hb2
      rw [HU.out]
      have l23 := hk.c23
      go_wp2_with fail
      clear l23
      refine (HS.out _ (HD.out.later b2)).mono ?_
      rintro e w3 ⟨rfl, hb3⟩
      replace hk := hk.later hb3
      have b3 := bl2 hb3 b2
      have z3 := b3.size
      clear hb3
      generalize P l.ds = p at *
      generalize I l.ds = i at *
      generalize hf : leftB l = f at *
      have HFL := Lib.hid hf
      clear hf
      have l2 := hk.c2
      have l3 := hk.c3
      have l4 := hk.c4
      have l9 := hk.c9
      have l10 := hk.c10
      have l12 := hk.c12
      have l24 := hk.c24
      cases hw with
      | a h1 =>
        go_wp2_with fail
        go_ret
        exact ⟨rfl, b3⟩
      | b h1 h2 =>
        go_wp2_with fail
        go_ret
        exact ⟨rfl, b3⟩
      | c h1 h2 h3 =>
        go_wp2_with fail
        go_ret
        exact ⟨rfl, b3⟩
      | d h1 h2 h3 h4 h5 =>
        have q1 : ((l.cs.length : Int) == 0) = true := by rw [h4]; rfl
        have q2 : (p != l.tm.pr) = true := bne_iff_ne.2 h5
        clear h4 h5
        go_wp2_with fail
        go_ret
        exact ⟨rfl, b3⟩
      | e h1 h2 h3 h4 h5 =>
        have hcs : (((l.cs.length : Int) == 0) = true ∧ (p != l.tm.pr) = false) ∨ ((l.cs.length : Int) == 0) = false := by
          rcases h4 with ⟨h4, h⟩ | h4
          · exact .inl ⟨by rw [h4]; rfl, by rw [h]; exact bne_self_eq_false _⟩
          · exact .inr (beq_eq_false_iff_ne.2 (by omega))
        have hst : ((l.st == 2) = true ∧ (l.st == 1) = false ∧ (l.st != 3) = true ∧ f = true) ∨ ((l.st == 2) = false ∧ (l.st == 1) = true ∧ (l.st != 3) = true ∧ f = false) := by
          rcases h5 with ⟨h5, h⟩ | ⟨h5, h⟩
          · exact .inl ⟨by rw [h5]; rfl, by rw [h5]; rfl, by rw [h5]; rfl, h⟩
          · exact .inr ⟨by rw [h5]; rfl, by rw [h5]; rfl, by rw [h5]; rfl, h⟩
        clear h4 h5
        rcases hcs with ⟨q1, q2⟩ | q1
        all_goals rcases hst with ⟨s1, s2, s3, rfl⟩ | ⟨s1, s2, s3, rfl⟩
        all_goals
          go_wp2_with (first | (refine wpList_load_row rfl 27 _ rfl _ rfl _ _ _ _ (hk) Try.underlying27 rfl (by kernel_rfl) ?_) | (refine load_guarded 27 _ rfl rfl _ rfl _ _ _ _ (hk) Try.underlying27 rfl (by kernel_rfl) ?_))
          refine (HL.out _ (HD.out.later b3)).mono ?_
          rintro e w4 ⟨rfl, hb4⟩
          replace hk := hk.later hb4
          have b4 := bl2 hb4 b3
          clear hb4 l2 l3 l4 l9 l10 l12 l24
          have l2 := hk.c2
          have l9 := hk.c9
          have l10 := hk.c10
          go_wp2_with fail
          go_ret
          exact ⟨rfl, b4⟩
      | g h1 h2 h3 h4 h5 h6 =>
        have hcs : (((l.cs.length : Int) == 0) = true ∧ (p != l.tm.pr) = false) ∨ ((l.cs.length : Int) == 0) = false := by
          rcases h4 with ⟨h4, h⟩ | h4
          · exact .inl ⟨by rw [h4]; rfl, by rw [h]; exact bne_self_eq_false _⟩
          · exact .inr (beq_eq_false_iff_ne.2 (by omega))
        have hst : ((l.st == 2) = true ∧ (l.st == 1) = false ∧ (l.st != 3) = true ∧ f = false) ∨ ((l.st == 2) = false ∧ (l.st == 1) = true ∧ (l.st != 3) = true ∧ f = true) := by
          rcases h5 with ⟨h5, h⟩ | ⟨h5, h⟩
          · exact .inl ⟨by rw [h5]; rfl, by rw [h5]; rfl, by rw [h5]; rfl, h⟩
          · exact .inr ⟨by rw [h5]; rfl, by rw [h5]; rfl, by rw [h5]; rfl, h⟩
        have hls : (l.loss != 0) = true ∨ ((l.loss != 0) = false ∧ (l.rcv != 0) = true) := by
          rcases h6 with h | ⟨h, h'⟩
          · exact .inl (bne_iff_ne.2 h)
          · exact .inr ⟨by rw [h]; rfl, bne_iff_ne.2 h'⟩
        clear h4 h5 h6
        rcases hcs with ⟨q1, q2⟩ | q1
        all_goals rcases hst with ⟨s1, s2, s3, rfl⟩ | ⟨s1, s2, s3, rfl⟩
        all_goals rcases hls with r1 | ⟨r1, r2⟩
        all_goals
          go_wp2_with (first | (refine wpList_load_row rfl 27 _ rfl _ rfl _ _ _ _ (hk) Try.underlying27 rfl (by kernel_rfl) ?_) | (refine load_guarded 27 _ rfl rfl _ rfl _ _ _ _ (hk) Try.underlying27 rfl (by kernel_rfl) ?_))
          refine (HL.out _ (HD.out.later b3)).mono ?_
          rintro e w4 ⟨rfl, hb4⟩
          replace hk := hk.later hb4
          have b4 := bl2 hb4 b3
          clear hb4 l2 l3 l4 l9 l10 l12 l24
          have l2 := hk.c2
          have l9 := hk.c9
          have l10 := hk.c10
          go_wp2_with fail
          go_ret
          exact ⟨rfl, b4⟩
      | k h1 h2 h3 h4 h5 h6 h7 =>
        have hcs : (((l.cs.length : Int) == 0) = true ∧ (p != l.tm.pr) = false) ∨ ((l.cs.length : Int) == 0) = false := by
          rcases h4 with ⟨h4, h⟩ | h4
          · exact .inl ⟨by rw [h4]; rfl, by rw [h]; exact bne_self_eq_false _⟩
          · exact .inr (beq_eq_false_iff_ne.2 (by omega))
        have hst : ((l.st == 2) = true ∧ (l.st == 1) = false ∧ (l.st != 3) = true ∧ f = false) ∨ ((l.st == 2) = false ∧ (l.st == 1) = true ∧ (l.st != 3) = true ∧ f = true) := by
          rcases h5 with ⟨h5, h⟩ | ⟨h5, h⟩
          · exact .inl ⟨by rw [h5]; rfl, by rw [h5]; rfl, by rw [h5]; rfl, h⟩
          · exact .inr ⟨by rw [h5]; rfl, by rw [h5]; rfl, by rw [h5]; rfl, h⟩
        have r1 : (l.loss != 0) = false := by rw [h6]; rfl
        have r2 : (l.rcv != 0) = false := by rw [h7]; rfl
        clear h4 h5 h6 h7
        rcases hcs with ⟨q1, q2⟩ | q1
        all_goals rcases hst with ⟨s1, s2, s3, rfl⟩ | ⟨s1, s2, s3, rfl⟩
        all_goals
          go_wp2_with (first | (refine wpList_load_row rfl 27 _ rfl _ rfl _ _ _ _ (hk) Try.underlying27 rfl (by kernel_rfl) ?_) | (refine load_guarded 27 _ rfl rfl _ rfl _ _ _ _ (hk) Try.underlying27 rfl (by kernel_rfl) ?_))
          refine (HL.out _ (HD.out.later b3)).mono ?_
          rintro e w4 ⟨rfl, hb4⟩
          replace hk := hk.later hb4
          have b4 := bl2 hb4 b3
          clear hb4 l2 l3 l4 l9 l10 l12 l24
          have l2 := hk.c2
          have l9 := hk.c9
          have l10 := hk.c10
          go_wp2_with fail
          go_ret
          exact ⟨rfl, b4⟩
      | m h1 h2 h3 h4 h5 =>
        have hcs : (((l.cs.length : Int) == 0) = true ∧ (p != l.tm.pr) = false) ∨ ((l.cs.length : Int) == 0) = false := by
          rcases h4 with ⟨h4, h⟩ | h4
          · exact .inl ⟨by rw [h4]; rfl, by rw [h]; exact bne_self_eq_false _⟩
          · exact .inr (beq_eq_false_iff_ne.2 (by omega))
        have s1 : (l.st == 2) = false := by rw [h5]; rfl
        have s2 : (l.st == 1) = false := by rw [h5]; rfl
        have s3 : (l.st != 3) = false := by rw [h5]; rfl
        clear h4 h5
        rcases hcs with ⟨q1, q2⟩ | q1
        all_goals
          go_wp2_with fail
          go_ret
          exact ⟨rfl, b3⟩
end Go.Proofs.Ytaibocobeibobaa.Ln
