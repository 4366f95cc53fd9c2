/-
  The reference's Owed.
-/
import Derived.Test.YtaibocobeibobaaLr2
import Derived.Test.YtaibocobeibobaaLnO
import Derived.Maps.AppendAt
namespace Go.Proofs.Ytaibocobeibobaa.Ln
open Go.RowKit
open Go.Proofs.Ytaibocobeibobaa

theorem pparts_succ {l : List Pa} {k : Nat} (h : k < l.length) : pparts (l.take (k + 1)) = pparts (l.take k) ++ (if 0 < l[k]!.am then [l[k]!] else []) := by
  unfold pparts
  rw [take_succ' h, List.filter_append]
  congr 1
  simp only [List.filter_cons, List.filter_nil]
  split <;> rename_i hh <;> simp at hh <;> simp [hh]
theorem part_info : (Try.prog.info? 42).map (fun i => (i.zero, i.size, i.bytes)) = some (some (.agg #[.int .i64 0, .int .i64 0]), 2, 16) := by kernel_rfl
/-- A value that is a slice of the call's own parts, or nil. -/
def PV (W : World) (B : Nat) (v : Value) (ps : List Pa) : Prop := W.ownsRow B 42 2 v ps.length (flat penc ps) ∧ ∃ a c, v = .slice a ps.length c
theorem PV.nil (W : World) (B : Nat) : PV W B (.slice none 0 0) [] := ⟨⟨rfl, .inl ⟨rfl, rfl⟩⟩, none, 0, rfl⟩
theorem PV.row {W : World} {B : Nat} {v : Value} {ps : List Pa} (h : PV W B v ps) : ∃ a c, v = .slice a ps.length c ∧ RowIn penc W a ps ∧ (∀ ad, a = some ad → B ≤ ad.block) := by
  obtain ⟨ho, a, c, rfl⟩ := h
  by_cases hn : (Value.slice a ps.length c) = .slice none 0 0
  · obtain ⟨rfl, h0, rfl⟩ := by simpa using hn
    exact ⟨none, 0, rfl, fun h => by simp [h0] at h, fun ad h => by cases h⟩
  · obtain ⟨g, c', he, hr⟩ := OwnR.of ho hn
    obtain ⟨rfl, _, rfl⟩ := by simpa using he
    exact ⟨_, _, rfl, hr.row, fun ad h => by cases h; exact hr.1⟩
/-- One part is appended. -/
theorem app_part {ops : Array Oper} {rest : List Oper} {o : Oper} {a : Act} {Q : Exit → Act → World → Prop} {W : World} {B : Nat} {v : Value} {ps : List Pa} (x : Pa) (hgd : o.guard = none) (s y : Operand)
    (ho : o.op = .call { callee := .builtin .append, args := #[s, y], argTypes := #[33, 33] }) (hs : a.eval s = v) (hr : PV W B v ps)
    (hy : a.eval y = .slice (some ⟨W.heap.size, 0, none⟩) 1 1) (hl : ps.length ≤ 100) (hB : B ≤ W.heap.size)
    (h : ∀ v' w', PV w' B v' (ps ++ [x]) → (W.alloc (.cells #[.int .i64 x.kd, .int .i64 x.am] 42)).grownBy w' v.ownBlock → (v'.ownBlock = v.ownBlock ∨ v'.ownBlock = some (W.heap.size + 1)) → wpList Try.prog ops Q rest (a.put o.dst v') w') :
    wpList Try.prog ops Q (o :: rest) a (W.alloc (.cells #[.int .i64 x.kd, .int .i64 x.am] 42)) := by
  obtain ⟨i, hi, hzz⟩ := Option.map_eq_some_iff.1 part_info
  simp only [Prod.mk.injEq] at hzz
  obtain ⟨hz, hsz, hby⟩ := hzz
  refine wpList_append_own_at _ hgd s y 33 ho B 42 i (.agg #[.int .i64 0, .int .i64 0]) 2 16 Try.underlying33 hi hz hsz hby rfl (by decide) v ps.length (flat penc ps) hs (hr.1.alloc _) ⟨W.heap.size, 0, none⟩ 1 1 (penc x) hy rfl ?_ (penc_one x) (by unfold maxLen; omega) (by omega) (by simp; omega) ?_
  · intro j u hj
    rw [show (⟨W.heap.size, 0, none⟩ : Addr).add j = ⟨W.heap.size, 0 + j, none⟩ from Go.WideShapes.add_plain .., Nat.zero_add]
    have hk := Bk.Blk.nw10 (W := W) (cs := #[.int .i64 x.kd, .int .i64 x.am]) (t := 42)
    rw [hk.cell]
    simpa [penc] using hj
  · intro v' w' hown hgr hnil hat
    refine h v' w' ?_ hgr (by simpa using hat)
    have e : flat penc ps ++ penc x = flat penc (ps ++ [x]) := by simp [flat]
    rw [e, show ps.length + 1 = (ps ++ [x]).length by simp] at hown
    refine ⟨hown, ?_⟩
    have hn : v' ≠ .slice none 0 0 := fun hv => by have := (hnil.1 hv).2; omega
    obtain ⟨g, c, rfl, _⟩ := OwnR.of hown hn
    exact ⟨_, _, rfl⟩
/-- Where the loop of Owed stands. -/
def ROR (w : World) (all : List Pa) (g0 : Nat) (g : Nat) (s6 s7 : Value) (W : World) : Prop := ∃ k : Nat, k + g = all.length ∧ s7 = .int .i64 k ∧ PV W w.heap.size s6 (pparts (all.take k)) ∧ s6.ownBlock ≠ some g0 ∧ Bk.Blk W g0 ((flat penc all ++ []).toArray) 42 ∧ Below w.heap.size w W
set_option maxHeartbeats 8000000 in
theorem rowed_any (l : Lo) (da ca : Option Addr) (dk ck : Nat) (on : Int) (w : World) (h : DuesIn w da l.ds) :
    Calls Try.prog 14 #[(.agg #[.int .i64 (l).id, .int .i64 (l).ac, .int .i64 (l).st, .int .i64 (l).pp, .int .i64 (l).pi, .int .i64 (l).fee, .int .i64 (l).pen, .int .i64 (l).chg, .int .i64 (l).prov, .int .i64 (l).loss, .int .i64 (l).rcv, .int .i64 ((l).tm).me, .int .i64 ((l).tm).pr, .int .i64 ((l).tm).ppm, .int .i64 ((l).tm).stt, .int .i64 ((l).tm).ev, .int .i64 ((l).tm).ct, .int .i64 ((l).tm).ba, .int .i64 ((l).tm).mo, .int .i64 ((l).tm).pen, .int .i64 ((l).tm).fe, .string ((l).tm).cal, .string ((l).tm).cur, .slice da (l).ds.length dk, .slice ca (l).cs.length ck]), .int .i64 on] w fun e w' => ∃ a c, e = .returned (.slice a (powed l on).length c) ∧ RowIn penc w' a (powed l on) ∧ (∀ ad, a = some ad → w.heap.size ≤ ad.block) ∧ Below w.heap.size w w' := by
  have HP := Lib.hid (fun (W : World) (hW : Below w.heap.size w W) => rprin_any l da ca dk ck on W (h.later hW))
  have HI := Lib.hid (fun (W : World) (hW : Below w.heap.size w W) => rint_any l da ca dk ck on W (h.later hW))
  have HO := Lib.hid (show powed l on = pparts [⟨1, l.fee⟩, ⟨2, l.pen⟩, ⟨3, IntKind.i64.wrap (I (due l.ds on) - l.pi)⟩, ⟨4, IntKind.i64.wrap (P (due l.ds on) - l.pp)⟩] by
    unfold powed oI oP wrap64
    rw [IntKind.wrap_i64, IntKind.wrap_i64])
  clear h
  have hk := Bk.Blk.nw10 (W := w) (cs := #[.int .i64 (l).id, .int .i64 (l).ac, .int .i64 (l).st, .int .i64 (l).pp, .int .i64 (l).pi, .int .i64 (l).fee, .int .i64 (l).pen, .int .i64 (l).chg, .int .i64 (l).prov, .int .i64 (l).loss, .int .i64 (l).rcv, .int .i64 ((l).tm).me, .int .i64 ((l).tm).pr, .int .i64 ((l).tm).ppm, .int .i64 ((l).tm).stt, .int .i64 ((l).tm).ev, .int .i64 ((l).tm).ct, .int .i64 ((l).tm).ba, .int .i64 ((l).tm).mo, .int .i64 ((l).tm).pen, .int .i64 ((l).tm).fe, .string ((l).tm).cal, .string ((l).tm).cur, .slice da (l).ds.length dk, .slice ca (l).cs.length ck]) (t := 27)
  have b1 : Below w.heap.size w (w.alloc (.cells #[.int .i64 (l).id, .int .i64 (l).ac, .int .i64 (l).st, .int .i64 (l).pp, .int .i64 (l).pi, .int .i64 (l).fee, .int .i64 (l).pen, .int .i64 (l).chg, .int .i64 (l).prov, .int .i64 (l).loss, .int .i64 (l).rcv, .int .i64 ((l).tm).me, .int .i64 ((l).tm).pr, .int .i64 ((l).tm).ppm, .int .i64 ((l).tm).stt, .int .i64 ((l).tm).ev, .int .i64 ((l).tm).ct, .int .i64 ((l).tm).ba, .int .i64 ((l).tm).mo, .int .i64 ((l).tm).pen, .int .i64 ((l).tm).fe, .string ((l).tm).cal, .string ((l).tm).cur, .slice da (l).ds.length dk, .slice ca (l).cs.length ck] 27)) := (Below.refl _ _).alloc (Nat.le_refl _) _
  generalize P (due l.ds on) = p at *
  generalize I (due l.ds on) = i at *
  generalize powed l on = r at *
  go_enter Try.func14, Try.ntmps14
  go_wp2_with fail
  generalize w.alloc (.cells #[.int .i64 (l).id, .int .i64 (l).ac, .int .i64 (l).st, .int .i64 (l).pp, .int .i64 (l).pi, .int .i64 (l).fee, .int .i64 (l).pen, .int .i64 (l).chg, .int .i64 (l).prov, .int .i64 (l).loss, .int .i64 (l).rcv, .int .i64 ((l).tm).me, .int .i64 ((l).tm).pr, .int .i64 ((l).tm).ppm, .int .i64 ((l).tm).stt, .int .i64 ((l).tm).ev, .int .i64 ((l).tm).ct, .int .i64 ((l).tm).ba, .int .i64 ((l).tm).mo, .int .i64 ((l).tm).pen, .int .i64 ((l).tm).fe, .string ((l).tm).cal, .string ((l).tm).cur, .slice da (l).ds.length dk, .slice ca (l).cs.length ck] 27) = w1 at *
  have q3 : ∀ W', Reg.Cls w1 W' → W'.cell? ⟨w.heap.size, 3, none⟩ = _ := fun W' hW => (hk.later hW).c3
  have q4 : ∀ W', Reg.Cls w1 W' → W'.cell? ⟨w.heap.size, 4, none⟩ = _ := fun W' hW => (hk.later hW).c4
  have q5 : ∀ W', Reg.Cls w1 W' → W'.cell? ⟨w.heap.size, 5, none⟩ = _ := fun W' hW => (hk.later hW).c5
  have q6 : ∀ W', Reg.Cls w1 W' → W'.cell? ⟨w.heap.size, 6, none⟩ = _ := fun W' hW => (hk.later hW).c6
  have HQ := Lib.hid (fun (W' : World) (hW : Reg.Cls w1 W') => hk.later hW)
  clear hk
  refine Reg.region_tail 20 (by kernel_rfl) (by kernel_rfl) ?_
  simp only [List.take_succ_cons, List.take_zero, List.drop_succ_cons, List.drop_zero]
  iterate 20 (first | go_big_quiet_skip | (go_big_quiet_want; (first | (refine quiet_load_row 27 _ rfl _ rfl _ _ _ _ (HQ.out) Try.underlying27 rfl (by kernel_rfl) ?_; (simp only [Act.put, List.setIfInBounds_toArray, List.set_cons_zero, List.set_cons_succ]; go_big_quiet_on)) | (go_big_quiet_op; go_big_quiet_on) | (apply Reg.quiet_run; (intro W hW; skip; go_simp; (first | done | rfl | exact ⟨rfl, rfl⟩ )); (simp only [Act.put, List.setIfInBounds_toArray, List.set_cons_zero, List.set_cons_succ]; go_big_quiet_on)) | (apply Reg.quiet_call; (intro W hW; go_simp; (first | done | rfl | exact ⟨rfl, rfl⟩)); (intro W hW; (first | (go_at_call 26; exact Reg.cls_call hW (HP.out _ (bl2 hW b1))) | (go_at_call 27; exact Reg.cls_call hW (HI.out _ (bl2 hW b1))))); (simp only [Act.put, List.setIfInBounds_toArray, List.set_cons_zero, List.set_cons_succ]; go_big_quiet_on)))))
  refine wpQuiet_nil ?_
  intro w2 hW
  have b2 := bl2 hW b1
  have z2 := b2.size
  clear hW HQ q3 q4 q5 q6
  generalize IntKind.i64.wrap (i - l.pi) = oi at *
  generalize IntKind.i64.wrap (p - l.pp) = op at *
  go_wp2_with fail
  have hsrc : Bk.Blk (w2.alloc (.cells #[.int .i64 1, .int .i64 l.fee, .int .i64 2, .int .i64 l.pen, .int .i64 3, .int .i64 oi, .int .i64 4, .int .i64 op] 42)) w2.heap.size ((flat penc [⟨1, l.fee⟩, ⟨2, l.pen⟩, ⟨3, oi⟩, ⟨4, op⟩] ++ []).toArray) 42 := Bk.Blk.nw10
  have b3 : Below w.heap.size w (w2.alloc (.cells #[.int .i64 1, .int .i64 l.fee, .int .i64 2, .int .i64 l.pen, .int .i64 3, .int .i64 oi, .int .i64 4, .int .i64 op] 42)) := b2.alloc z2 _
  generalize w2.alloc (.cells #[.int .i64 1, .int .i64 l.fee, .int .i64 2, .int .i64 l.pen, .int .i64 3, .int .i64 oi, .int .i64 4, .int .i64 op] 42) = w3 at *
  obtain ⟨all, hall⟩ : ∃ all : List Pa, all = [⟨1, l.fee⟩, ⟨2, l.pen⟩, ⟨3, oi⟩, ⟨4, op⟩] := ⟨_, rfl⟩
  rw [← hall] at hsrc HO
  have hlen : all.length = 4 := by rw [hall]; rfl
  clear hall
  go_loopg [6, 7] all.length (ROR w all w2.heap.size)
  case atStart => exact ⟨0, by omega, rfl, PV.nil _ _, by simp [Value.ownBlock], hsrc, b3⟩
  case round =>
    clear hsrc b3
    obtain ⟨k, hk, rfl, hpv, hne, hsrc, hbr⟩ := hrel
    have hz := hbr.size
    by_cases hlt : k < 4
    · obtain ⟨c0, c1⟩ := pblk_cells hsrc (show k < all.length by omega)
      have hsu := pparts_succ (l := all) (show k < all.length by omega)
      have hpl := pparts_len (all.take k)
      have hgl := hsrc.lt
      have hkl : (all.take k).length ≤ 4 := by simp; omega
      by_cases hp : 0 < all[k]!.am
      · have HS := Lib.hid (hsu.trans (by rw [if_pos hp]))
        generalize all[k]! = x at *
        clear hsu
        go_wp2_with (at_builtin; refine app_part x rfl _ _ rfl rfl hpv rfl (by omega) hz ?_)
        intro v' w' hpv' hgr hat
        have hsrc' := (hgr.block _ (by simp; omega) (Ne.symm hne)).trans hsrc.alloc
        have hbr' : Below w.heap.size w w' := (hbr.alloc hz _).grown hgr (by simp; omega) (fun j hj => (hpv.1.lt j hj).1)
        have hne' : v'.ownBlock ≠ some w2.heap.size := by
          rcases hat with hat | hat
          · rw [hat]; exact hne
          · rw [hat]; intro he; have := Option.some.inj he; omega
        have HPV := Lib.hid hpv'
        have HNE := Lib.hid hne'
        clear hpv hpv' hne hne' hat hgr hsrc hbr
        go_wp2_with fail
        go_roundg (gk - 1)
        case measure => omega
        case rel => exact ⟨k + 1, by omega, by go_num, by rw [HS.out]; exact HPV.out, HNE.out, hsrc', hbr'⟩
      · have HS := Lib.hid (hsu.trans (by rw [if_neg hp, List.append_nil]))
        generalize all[k]! = x at *
        clear hsu
        go_wp2_with fail
        go_roundg (gk - 1)
        case measure => omega
        case rel => exact ⟨k + 1, by omega, by go_num, by rw [HS.out]; exact hpv, hne, hsrc, hbr⟩
    · have hkn : k = all.length := by omega
      rw [hkn, List.take_length] at hpv
      obtain ⟨a, c, rfl, hrow, hfr⟩ := hpv.row
      have HROW := Lib.hid hrow
      clear hpv hrow
      go_wp2_with fail
      go_ret
      exact ⟨a, c, by rw [HO.out]; rfl, by rw [HO.out]; exact HROW.out, hfr, hbr⟩
end Go.Proofs.Ytaibocobeibobaa.Ln
