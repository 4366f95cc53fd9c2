/-
 The reference's sameChanges, Same: equal loans are the same.
-/
import Derived.Test.YtaanicginfjgdaaGreatDoorLc
import Derived.Test.YtaanicginfjgdaaGreatDoorLb
import Derived.Deep.MidRow
namespace Go.Proofs.YtaanicginfjgdaaGreatDoor.Ln
open Go.RowKit
open Go.Proofs.YtaanicginfjgdaaGreatDoor

theorem quiet_load_mid {P : Program} {C : World → Prop} {a : Act} {o : Oper} {K : Act → Prop} (ty : TypeId) (x : Operand) (ho : o.op = .load ty x)
  (b f : Nat) (hx : a.eval x = .pointer (some ⟨b, f, none⟩)) (cs : List Value) (d : TypeDesc) (hg : ∀ w, C w → w.rangeAt b f cs)
  (hu : P.underlying ty = some d) (hd : d.isRow = true) (hi : (P.info? ty).map (·.size) = some cs.length)
  (hk : K (a.put o.dst (.agg cs.toArray))) : o.quiet P a C K :=
 Reg.quiet_run (v := .agg cs.toArray) (fun w hw => by
  unfold execOp
  simp only [ho, hx, Instr.loadAt, Instr.sureAddr, Sem.run_bind, Sem.run_pure, Result.andThen_ok, run_loadVar_mid w b f ty cs d (hg w hw) hu hd hi]) hk
theorem rangeAt_later {W W' : World} {b f : Nat} {cs : List Value} (hb : Below W.heap.size W W') (h : W.rangeAt b f cs) : W'.rangeAt b f cs := fun j v hv => cell_later hb (h j v hv)
theorem RowIn.mid {α : Type} [Inhabited α] {enc : α → List Value} {k : Nat} (hk : ∀ x, (enc x).length = k) {W : World} {a : Option Addr} {xs : List α} (h : RowIn enc W a xs) (h0 : 0 < xs.length) :
  ∃ b off, a = some ⟨b, off, none⟩ ∧ ∀ j, j < xs.length → W.rangeAt b (off + j * k) (enc xs[j]!) := by
 obtain ⟨b, off, ha, hc⟩ := h h0
 refine ⟨b, off, ha, fun j hj i u hu => ?_⟩
 have hik : i < k := by
  have := (List.getElem?_eq_some_iff.1 hu).1
  rwa [hk] at this
 rw [Nat.add_assoc]
 exact hc _ _ ((flat_get hk xs j i hj hik).trans hu)
theorem chg_neq (c : Ch) (W : World) : (binOp .neq 49 (.agg (cenc c).toArray) (.agg (cenc c).toArray)).run Tryz.prog W = .ok (.bool false) W := by
 show (binOp .neq 49 (.agg #[.int .i64 c.day, .int .i64 c.amt, .int .i64 (c.old).me, .int .i64 (c.old).pr, .int .i64 (c.old).ppm, .int .i64 (c.old).stt, .int .i64 (c.old).ev, .int .i64 (c.old).ct, .int .i64 (c.old).ba, .int .i64 (c.old).mo, .int .i64 (c.old).pen, .int .i64 (c.old).fe, .string (c.old).cal, .string (c.old).cur]) (.agg #[.int .i64 c.day, .int .i64 c.amt, .int .i64 (c.old).me, .int .i64 (c.old).pr, .int .i64 (c.old).ppm, .int .i64 (c.old).stt, .int .i64 (c.old).ev, .int .i64 (c.old).ct, .int .i64 (c.old).ba, .int .i64 (c.old).mo, .int .i64 (c.old).pen, .int .i64 (c.old).fe, .string (c.old).cal, .string (c.old).cur])).run Tryz.prog W = _
 go_simp
def samechR (w : World) (n : Nat) (g : Nat) (s5 : Value) (W : World) : Prop := ∃ k : Nat, k + g = n ∧ s5 = .int .i64 k ∧ Below w.heap.size w W
set_option maxHeartbeats 4000000 in
theorem samech_any (a1 a2 : Option Addr) (k1 k2 : Nat) (xs : List Ch) (w : World) (h1 : RowIn cenc w a1 xs) (h2 : RowIn cenc w a2 xs) (hn : xs.length ≤ 100000) :
  Calls Tryz.prog 40 #[.slice a1 xs.length k1, .slice a2 xs.length k2] w fun e w' => e = .returned (.bool true) ∧ Below w.heap.size w w' := by
 have H1 := Lib.hid h1
 have H2 := Lib.hid h2
 clear h1 h2
 go_enter Tryz.func40, Tryz.ntmps40
 go_wp2_with fail
 go_loopg [5] xs.length (samechR w xs.length)
 case atStart => exact ⟨0, by omega, rfl, Below.refl _ _⟩
 case round =>
  obtain ⟨k, hk, rfl, hbr⟩ := hrel
  by_cases hlt : k < xs.length
  ·obtain ⟨b, off, rfl, hc⟩ := H1.out.mid cenc_len (by omega)
   obtain ⟨b', off', rfl, hd⟩ := H2.out.mid cenc_len (by omega)
   have hc' := fun (W' : World) (hW : Reg.Cls wr W') => rangeAt_later hW (rangeAt_later hbr (hc k hlt))
   have hd' := fun (W' : World) (hW : Reg.Cls wr W') => rangeAt_later hW (rangeAt_later hbr (hd k hlt))
   have HC := Lib.hid hc'
   have HD := Lib.hid hd'
   have i1 : (0 : Int) ≤ (k : Int) := by omega
   have i2 : (k : Int) < (xs.length : Int) := by omega
   clear hc hd hc' hd'
   generalize xs[k]! = x at *
   have q := chg_neq x
   go_wp2_with fail
   refine Reg.region_quiet (by kernel_rfl) (by kernel_rfl) ?_
   iterate 3 (first | go_big_quiet_skip | (go_big_quiet_want; (first | (go_big_quiet_op; go_big_quiet_on) | (apply Reg.quiet_run; (intro W hW; skip; go_simp; (first | done | rfl | exact ⟨rfl, rfl⟩ )); (simp only [Act.put, List.setIfInBounds_toArray, List.set_cons_zero, List.set_cons_succ]; go_big_quiet_on)) | (apply Reg.quiet_call; (intro W hW; go_simp; (first | done | rfl | exact ⟨rfl, rfl⟩)); (intro W hW; (first | fail)); (simp only [Act.put, List.setIfInBounds_toArray, List.set_cons_zero, List.set_cons_succ]; go_big_quiet_on)))))
   (go_big_quiet_want; refine quiet_load_mid 49 _ rfl b (off + k * 14) (by rfl) (cenc x) _ HC.out Tryz.underlying49 rfl (by kernel_rfl) ?_; (simp only [Act.put, List.setIfInBounds_toArray, List.set_cons_zero, List.set_cons_succ]; go_big_quiet_on))
   iterate 3 (first | go_big_quiet_skip | (go_big_quiet_want; (first | (go_big_quiet_op; go_big_quiet_on) | (apply Reg.quiet_run; (intro W hW; skip; go_simp; (first | done | rfl | exact ⟨rfl, rfl⟩ )); (simp only [Act.put, List.setIfInBounds_toArray, List.set_cons_zero, List.set_cons_succ]; go_big_quiet_on)) | (apply Reg.quiet_call; (intro W hW; go_simp; (first | done | rfl | exact ⟨rfl, rfl⟩)); (intro W hW; (first | fail)); (simp only [Act.put, List.setIfInBounds_toArray, List.set_cons_zero, List.set_cons_succ]; go_big_quiet_on)))))
   (go_big_quiet_want; refine quiet_load_mid 49 _ rfl b' (off' + k * 14) (by rfl) (cenc x) _ HD.out Tryz.underlying49 rfl (by kernel_rfl) ?_; (simp only [Act.put, List.setIfInBounds_toArray, List.set_cons_zero, List.set_cons_succ]; go_big_quiet_on))
   iterate 1 (first | go_big_quiet_skip | (go_big_quiet_want; (first | (go_big_quiet_op; go_big_quiet_on) | (apply Reg.quiet_run; (intro W hW; skip; go_simp; (first | done | rfl | exact ⟨rfl, rfl⟩ )); (simp only [Act.put, List.setIfInBounds_toArray, List.set_cons_zero, List.set_cons_succ]; go_big_quiet_on)) | (apply Reg.quiet_call; (intro W hW; go_simp; (first | done | rfl | exact ⟨rfl, rfl⟩)); (intro W hW; (first | fail)); (simp only [Act.put, List.setIfInBounds_toArray, List.set_cons_zero, List.set_cons_succ]; go_big_quiet_on)))))
   refine wpQuiet_nil ?_
   intro w5 hW
   have b5 := bl2 hW hbr
   go_wp2_with fail
   go_roundg (gk - 1)
   case measure => omega
   case rel => exact ⟨k + 1, by omega, by go_num, b5⟩
  ·go_wp2_with fail
   go_ret
   exact ⟨rfl, hbr⟩
theorem load_guarded_mid {P : Program} {ops : Array Oper} {rest : List Oper} {o : Oper} {a : Act} {w : World} {Q : Exit → Act → World → Prop} (ty : TypeId) (x : Operand) (ho : o.op = .load ty x) (hw : Region.wanted o (yielded ops a.tmps) = true)
  (b f : Nat) (hx : a.eval x = .pointer (some ⟨b, f, none⟩)) (cs : List Value) (d : TypeDesc) (hc : w.rangeAt b f cs) (hu : P.underlying ty = some d) (hd : d.isRow = true) (hi : (P.info? ty).map (·.size) = some cs.length)
  (h : wpList P ops Q rest (a.put o.dst (.agg cs.toArray)) w) : wpList P ops Q (o :: rest) a w :=
 BigFrame.wpList_want hw fun _ hK => wp_load_mid ty x ho b f hx cs d hc hu hd hi (hK _ _ h)
theorem tm_eql (t : Tm) (W : World) : (binOp .eql 23 (.agg (tenc t).toArray) (.agg (tenc t).toArray)).run Tryz.prog W = .ok (.bool true) W := by
 show (binOp .eql 23 (.agg #[.int .i64 (t).me, .int .i64 (t).pr, .int .i64 (t).ppm, .int .i64 (t).stt, .int .i64 (t).ev, .int .i64 (t).ct, .int .i64 (t).ba, .int .i64 (t).mo, .int .i64 (t).pen, .int .i64 (t).fe, .string (t).cal, .string (t).cur]) (.agg #[.int .i64 (t).me, .int .i64 (t).pr, .int .i64 (t).ppm, .int .i64 (t).stt, .int .i64 (t).ev, .int .i64 (t).ct, .int .i64 (t).ba, .int .i64 (t).mo, .int .i64 (t).pen, .int .i64 (t).fe, .string (t).cal, .string (t).cur])).run Tryz.prog W = _
 go_simp
theorem tm_range {W : World} {g : Nat} {l : Lo} {da ca : Option Addr} {dk ck : Nat} {t : TypeId} (h : Bk.Blk W g #[.int .i64 (l).id, .int .i64 (l).ac, .int .i64 (l).st, .int .i64 (l).pp, .int .i64 (l).pi, .int .i64 (l).fee, .int .i64 (l).pen, .int .i64 (l).chg, .int .i64 (l).prov, .int .i64 (l).loss, .int .i64 (l).rcv, .int .i64 ((l).tm).me, .int .i64 ((l).tm).pr, .int .i64 ((l).tm).ppm, .int .i64 ((l).tm).stt, .int .i64 ((l).tm).ev, .int .i64 ((l).tm).ct, .int .i64 ((l).tm).ba, .int .i64 ((l).tm).mo, .int .i64 ((l).tm).pen, .int .i64 ((l).tm).fe, .string ((l).tm).cal, .string ((l).tm).cur, .slice da (l).ds.length dk, .slice ca (l).cs.length ck] t) : W.rangeAt g 11 (tenc l.tm) := by
 intro j v hv
 rw [h.cell]
 have hj : j < 12 := (List.getElem?_eq_some_iff.1 hv).1
 have : j = 0 ∨ j = 1 ∨ j = 2 ∨ j = 3 ∨ j = 4 ∨ j = 5 ∨ j = 6 ∨ j = 7 ∨ j = 8 ∨ j = 9 ∨ j = 10 ∨ j = 11 := by omega
 rcases this with rfl | rfl | rfl | rfl | rfl | rfl | rfl | rfl | rfl | rfl | rfl | rfl <;> exact hv
set_option maxRecDepth 100000 in
set_option maxHeartbeats 8000000 in
theorem same_any (l : Lo) (da ca da' ca' : Option Addr) (dk ck dk' ck' : Nat) (w : World) (h1 : RowIn denc w da l.ds) (h2 : RowIn denc w da' l.ds) (h3 : RowIn cenc w ca l.cs) (h4 : RowIn cenc w ca' l.cs) (hn : l.ds.length ≤ 100000) (hm : l.cs.length ≤ 100000) :
  Calls Tryz.prog 14 #[(.agg #[.int .i64 (l).id, .int .i64 (l).ac, .int .i64 (l).st, .int .i64 (l).pp, .int .i64 (l).pi, .int .i64 (l).fee, .int .i64 (l).pen, .int .i64 (l).chg, .int .i64 (l).prov, .int .i64 (l).loss, .int .i64 (l).rcv, .int .i64 ((l).tm).me, .int .i64 ((l).tm).pr, .int .i64 ((l).tm).ppm, .int .i64 ((l).tm).stt, .int .i64 ((l).tm).ev, .int .i64 ((l).tm).ct, .int .i64 ((l).tm).ba, .int .i64 ((l).tm).mo, .int .i64 ((l).tm).pen, .int .i64 ((l).tm).fe, .string ((l).tm).cal, .string ((l).tm).cur, .slice da (l).ds.length dk, .slice ca (l).cs.length ck]), (.agg #[.int .i64 (l).id, .int .i64 (l).ac, .int .i64 (l).st, .int .i64 (l).pp, .int .i64 (l).pi, .int .i64 (l).fee, .int .i64 (l).pen, .int .i64 (l).chg, .int .i64 (l).prov, .int .i64 (l).loss, .int .i64 (l).rcv, .int .i64 ((l).tm).me, .int .i64 ((l).tm).pr, .int .i64 ((l).tm).ppm, .int .i64 ((l).tm).stt, .int .i64 ((l).tm).ev, .int .i64 ((l).tm).ct, .int .i64 ((l).tm).ba, .int .i64 ((l).tm).mo, .int .i64 ((l).tm).pen, .int .i64 ((l).tm).fe, .string ((l).tm).cal, .string ((l).tm).cur, .slice da' (l).ds.length dk', .slice ca' (l).cs.length ck'])] w fun e w' => e = .returned (.bool true) ∧ Below w.heap.size w w' := by
 have b2 : Below w.heap.size w ((w.alloc (.cells #[.int .i64 (l).id, .int .i64 (l).ac, .int .i64 (l).st, .int .i64 (l).pp, .int .i64 (l).pi, .int .i64 (l).fee, .int .i64 (l).pen, .int .i64 (l).chg, .int .i64 (l).prov, .int .i64 (l).loss, .int .i64 (l).rcv, .int .i64 ((l).tm).me, .int .i64 ((l).tm).pr, .int .i64 ((l).tm).ppm, .int .i64 ((l).tm).stt, .int .i64 ((l).tm).ev, .int .i64 ((l).tm).ct, .int .i64 ((l).tm).ba, .int .i64 ((l).tm).mo, .int .i64 ((l).tm).pen, .int .i64 ((l).tm).fe, .string ((l).tm).cal, .string ((l).tm).cur, .slice da (l).ds.length dk, .slice ca (l).cs.length ck] 27)).alloc (.cells #[.int .i64 (l).id, .int .i64 (l).ac, .int .i64 (l).st, .int .i64 (l).pp, .int .i64 (l).pi, .int .i64 (l).fee, .int .i64 (l).pen, .int .i64 (l).chg, .int .i64 (l).prov, .int .i64 (l).loss, .int .i64 (l).rcv, .int .i64 ((l).tm).me, .int .i64 ((l).tm).pr, .int .i64 ((l).tm).ppm, .int .i64 ((l).tm).stt, .int .i64 ((l).tm).ev, .int .i64 ((l).tm).ct, .int .i64 ((l).tm).ba, .int .i64 ((l).tm).mo, .int .i64 ((l).tm).pen, .int .i64 ((l).tm).fe, .string ((l).tm).cal, .string ((l).tm).cur, .slice da' (l).ds.length dk', .slice ca' (l).cs.length ck'] 27)) := ((Below.refl _ _).alloc (Nat.le_refl _) _).alloc (by simp) _
 have k1 : Bk.Blk ((w.alloc (.cells #[.int .i64 (l).id, .int .i64 (l).ac, .int .i64 (l).st, .int .i64 (l).pp, .int .i64 (l).pi, .int .i64 (l).fee, .int .i64 (l).pen, .int .i64 (l).chg, .int .i64 (l).prov, .int .i64 (l).loss, .int .i64 (l).rcv, .int .i64 ((l).tm).me, .int .i64 ((l).tm).pr, .int .i64 ((l).tm).ppm, .int .i64 ((l).tm).stt, .int .i64 ((l).tm).ev, .int .i64 ((l).tm).ct, .int .i64 ((l).tm).ba, .int .i64 ((l).tm).mo, .int .i64 ((l).tm).pen, .int .i64 ((l).tm).fe, .string ((l).tm).cal, .string ((l).tm).cur, .slice da (l).ds.length dk, .slice ca (l).cs.length ck] 27)).alloc (.cells #[.int .i64 (l).id, .int .i64 (l).ac, .int .i64 (l).st, .int .i64 (l).pp, .int .i64 (l).pi, .int .i64 (l).fee, .int .i64 (l).pen, .int .i64 (l).chg, .int .i64 (l).prov, .int .i64 (l).loss, .int .i64 (l).rcv, .int .i64 ((l).tm).me, .int .i64 ((l).tm).pr, .int .i64 ((l).tm).ppm, .int .i64 ((l).tm).stt, .int .i64 ((l).tm).ev, .int .i64 ((l).tm).ct, .int .i64 ((l).tm).ba, .int .i64 ((l).tm).mo, .int .i64 ((l).tm).pen, .int .i64 ((l).tm).fe, .string ((l).tm).cal, .string ((l).tm).cur, .slice da' (l).ds.length dk', .slice ca' (l).cs.length ck'] 27)) w.heap.size _ 27 := Bk.Blk.nw20
 have k2 : Bk.Blk ((w.alloc (.cells #[.int .i64 (l).id, .int .i64 (l).ac, .int .i64 (l).st, .int .i64 (l).pp, .int .i64 (l).pi, .int .i64 (l).fee, .int .i64 (l).pen, .int .i64 (l).chg, .int .i64 (l).prov, .int .i64 (l).loss, .int .i64 (l).rcv, .int .i64 ((l).tm).me, .int .i64 ((l).tm).pr, .int .i64 ((l).tm).ppm, .int .i64 ((l).tm).stt, .int .i64 ((l).tm).ev, .int .i64 ((l).tm).ct, .int .i64 ((l).tm).ba, .int .i64 ((l).tm).mo, .int .i64 ((l).tm).pen, .int .i64 ((l).tm).fe, .string ((l).tm).cal, .string ((l).tm).cur, .slice da (l).ds.length dk, .slice ca (l).cs.length ck] 27)).alloc (.cells #[.int .i64 (l).id, .int .i64 (l).ac, .int .i64 (l).st, .int .i64 (l).pp, .int .i64 (l).pi, .int .i64 (l).fee, .int .i64 (l).pen, .int .i64 (l).chg, .int .i64 (l).prov, .int .i64 (l).loss, .int .i64 (l).rcv, .int .i64 ((l).tm).me, .int .i64 ((l).tm).pr, .int .i64 ((l).tm).ppm, .int .i64 ((l).tm).stt, .int .i64 ((l).tm).ev, .int .i64 ((l).tm).ct, .int .i64 ((l).tm).ba, .int .i64 ((l).tm).mo, .int .i64 ((l).tm).pen, .int .i64 ((l).tm).fe, .string ((l).tm).cal, .string ((l).tm).cur, .slice da' (l).ds.length dk', .slice ca' (l).cs.length ck'] 27)) (w.heap.size + 1) _ 27 := Bk.Blk.nw21
 have HD := Lib.hid (fun (W : World) (hW : Below w.heap.size w W) => samedues_any da da' dk dk' l.ds W (h1.later hW) (h2.later hW) hn)
 have HC := Lib.hid (fun (W : World) (hW : Below w.heap.size w W) => samech_any ca ca' ck ck' l.cs W (h3.later hW) (h4.later hW) hm)
 have q := tm_eql l.tm
 clear h1 h2 h3 h4
 go_enter Tryz.func14, Tryz.ntmps14
 go_wp2_with (first | (refine load_guarded_mid 23 _ rfl rfl w.heap.size 11 (by rfl) (tenc l.tm) _ (tm_range k1) Tryz.underlying23 rfl (by kernel_rfl) ?_) | (refine load_guarded_mid 23 _ rfl rfl (w.heap.size + 1) 11 (by rfl) (tenc l.tm) _ (tm_range k2) Tryz.underlying23 rfl (by kernel_rfl) ?_))
 refine (HD.out _ b2).mono ?_
 rintro e w3 ⟨rfl, hb3⟩
 replace k1 := k1.later hb3
 replace k2 := k2.later hb3
 have b3 := bl2 hb3 b2
 have l1 := k1.c24
 have l2 := k2.c24
 clear hb3 b2 q HD
 go_wp2_with fail
 refine (HC.out _ b3).mono ?_
 rintro e w4 ⟨rfl, hb4⟩
 have b4 := bl2 hb4 b3
 clear hb4 b3 HC k1 k2 l1 l2
 go_wp2_with fail
 go_ret
 exact ⟨rfl, b4⟩
end Go.Proofs.YtaanicginfjgdaaGreatDoor.Ln
