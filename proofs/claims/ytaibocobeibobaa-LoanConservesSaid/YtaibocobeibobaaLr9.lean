/-
  The reference's Pay.
-/
import Derived.Test.YtaibocobeibobaaLr8
import Derived.Test.YtaibocobeibobaaLnp
import Derived.Test.YtaibocobeibobaaCel
namespace Go.Proofs.Ytaibocobeibobaa.Ln
open Go.RowKit
open Go.Proofs.Ytaibocobeibobaa

theorem drop_get {α : Type} [Inhabited α] {l : List α} {k : Nat} (h : k < l.length) : l.drop k = l[k]! :: l.drop (k + 1) := by
  rw [List.drop_eq_getElem_cons h, getElem!_pos l k h]
theorem powed_ok {l : Lo} (h : Ok l) (on : Int) : ∀ p ∈ powed l on, (p.kd = 1 ∨ p.kd = 2 ∨ p.kd = 3 ∨ p.kd = 4) ∧ 0 < p.am ∧ p.am ≤ 1000000000000000 := by
  intro p hp
  have s := h.sums on
  obtain ⟨f0, f1⟩ := amt_iff.1 h.fee
  obtain ⟨e0, e1⟩ := amt_iff.1 h.pen
  have hpp := h.pp; have hpi := h.pi
  have i1 := s.i1; have i2 := s.i2; have p1 := s.p1; have p2 := s.p2
  unfold powed pparts at hp
  rw [h.oI, h.oP] at hp
  simp only [List.mem_filter, List.mem_cons, List.not_mem_nil, or_false, decide_eq_true_eq] at hp
  obtain ⟨hm, h0⟩ := hp
  rcases hm with rfl | rfl | rfl | rfl
  · exact ⟨.inl rfl, h0, by show l.fee ≤ _; omega⟩
  · exact ⟨.inr (.inl rfl), h0, by show l.pen ≤ _; omega⟩
  · exact ⟨.inr (.inr (.inl rfl)), h0, by show I (due l.ds on) - l.pi ≤ _; omega⟩
  · exact ⟨.inr (.inr (.inr rfl)), h0, by show P (due l.ds on) - l.pp ≤ _; omega⟩
/-- The four amounts of a loan that payments change are in bounds. -/
def LBd (L : Lo) (c : Int) : Prop := -c ≤ L.fee ∧ L.fee ≤ c ∧ -c ≤ L.pen ∧ L.pen ≤ c ∧ -c ≤ L.pi ∧ L.pi ≤ c ∧ -c ≤ L.pp ∧ L.pp ≤ c
theorem LBd.app {L : Lo} {c : Int} {p : Pa} (h : LBd L c) (h0 : 0 ≤ p.am) : LBd (L.app p) (c + p.am) := by
  unfold LBd at *
  unfold Lo.app
  split
  · dsimp only; omega
  · split
    · dsimp only; omega
    · split
      · dsimp only; omega
      · dsimp only; omega
theorem payGo_cons (p : Pa) (ps : List Pa) (n : Int) (L : Lo) (out : List Pa) : payGo (p :: ps) n L out = if 0 < n then payGo ps (n - min n p.am) (L.app ⟨p.kd, min n p.am⟩) (out ++ [⟨p.kd, min n p.am⟩]) else (n, L, out) := rfl
theorem LBd.mono {L : Lo} {c d : Int} (h : LBd L c) (h0 : c ≤ d) : LBd L d := by unfold LBd at *; omega
theorem app_same (L : Lo) (p : Pa) : (L.app p).ds = L.ds ∧ (L.app p).cs = L.cs := by
  unfold Lo.app
  split
  · exact ⟨rfl, rfl⟩
  · split
    · exact ⟨rfl, rfl⟩
    · split <;> exact ⟨rfl, rfl⟩
/-- A row in a block that is as it was. -/
theorem RowIn.blk {α : Type} {enc : α → List Value} {W W' : World} {a : Option Addr} {xs : List α} (h : RowIn enc W a xs) (hb : ∀ ad, a = some ad → W'.heap[ad.block]? = W.heap[ad.block]?) : RowIn enc W' a xs := fun h0 => by
  obtain ⟨b, off, ha, hc⟩ := h h0
  refine ⟨b, off, ha, fun j u hj => ?_⟩
  have := hb _ ha
  exact (World.cell?_of_block (a := ⟨b, off + j, none⟩) this).trans (hc j u hj)
theorem PV.blk {W W' : World} {B : Nat} {v : Value} {ps : List Pa} (h : PV W B v ps) (hb : ∀ g, v.ownBlock = some g → W'.heap[g]? = W.heap[g]?) : PV W' B v ps := by
  obtain ⟨⟨hl, hr⟩, hs⟩ := h
  refine ⟨⟨hl, ?_⟩, hs⟩
  rcases hr with ⟨h1, h2⟩ | ⟨g, cap, cur, h1, h2, h3, h4⟩
  · exact .inl ⟨h1, h2⟩
  · exact .inr ⟨g, cap, cur, h1, h2, (hb g (by rw [h1]; rfl)).trans h3, h4⟩
theorem PV.later {W W' : World} {B : Nat} {v : Value} {ps : List Pa} (h : PV W B v ps) (hb : Below W.heap.size W W') : PV W' B v ps := h.blk (fun g hg => hb.block g (h.1.lt g hg).2)

/-- Where the loop of Pay stands. -/
def RPL (w : World) (l : Lo) (da ca : Option Addr) (dk ck : Nat) (ow : List Pa) (a : Option Addr) (F : Int × Lo × List Pa) (g : Nat) (s1 s9 s11 : Value) (W : World) : Prop := ∃ (k : Nat) (n : Int) (L : Lo) (out : List Pa),
  k + g = ow.length ∧ s11 = .int .i64 k ∧ s1 = .int .i64 n ∧ PV W w.heap.size s9 out ∧ (s9.ownBlock ≠ some w.heap.size ∧ s9.ownBlock ≠ some (w.heap.size + 1) ∧ ∀ ad, a = some ad → s9.ownBlock ≠ some ad.block) ∧
  payGo (ow.drop k) n L out = F ∧ 0 ≤ n ∧ n ≤ 1000000000000 ∧ out.length ≤ k ∧ LBd L (1000000000000000 + k * 1000000000000) ∧ L.ds = l.ds ∧ L.cs = l.cs ∧
  Bk.Blk W w.heap.size #[.int .i64 (L).id, .int .i64 (L).ac, .int .i64 (L).st, .int .i64 (L).pp, .int .i64 (L).pi, .int .i64 (L).fee, .int .i64 (L).pen, .int .i64 (L).chg, .int .i64 (L).prov, .int .i64 (L).loss, .int .i64 (L).rcv, .int .i64 ((L).tm).me, .int .i64 ((L).tm).pr, .int .i64 ((L).tm).ppm, .int .i64 ((L).tm).stt, .int .i64 ((L).tm).ev, .int .i64 ((L).tm).ct, .int .i64 ((L).tm).ba, .int .i64 ((L).tm).mo, .int .i64 ((L).tm).pen, .int .i64 ((L).tm).fe, .string ((L).tm).cal, .string ((L).tm).cur, .slice da (L).ds.length dk, .slice ca (L).cs.length ck] 27 ∧ Bk.Blk W (w.heap.size + 1) #[.int .i64 0, .int .i64 0, .int .i64 0, .int .i64 0, .int .i64 0, .int .i64 0, .int .i64 0, .int .i64 0, .int .i64 0, .int .i64 0, .int .i64 0, .int .i64 0, .int .i64 0, .int .i64 0, .int .i64 0, .int .i64 0, .int .i64 0, .int .i64 0, .int .i64 0, .int .i64 0, .int .i64 0, .string .empty, .string .empty, .slice none 0 0, .slice none 0 0] 27 ∧ RowIn penc W a ow ∧ Below w.heap.size w W
set_option maxHeartbeats 16000000 in
theorem rpay_ok (l : Lo) (da ca : Option Addr) (dk ck : Nat) (n on : Int) (w : World) (h : DuesIn w da l.ds) (hd : Dok l.ds) (he : payE l n on = 0) :
    Calls Try.prog 17 #[(.agg #[.int .i64 (l).id, .int .i64 (l).ac, .int .i64 (l).st, .int .i64 (l).pp, .int .i64 (l).pi, .int .i64 (l).fee, .int .i64 (l).pen, .int .i64 (l).chg, .int .i64 (l).prov, .int .i64 (l).loss, .int .i64 (l).rcv, .int .i64 ((l).tm).me, .int .i64 ((l).tm).pr, .int .i64 ((l).tm).ppm, .int .i64 ((l).tm).stt, .int .i64 ((l).tm).ev, .int .i64 ((l).tm).ct, .int .i64 ((l).tm).ba, .int .i64 ((l).tm).mo, .int .i64 ((l).tm).pen, .int .i64 ((l).tm).fe, .string ((l).tm).cal, .string ((l).tm).cur, .slice da (l).ds.length dk, .slice ca (l).cs.length ck]), .int .i64 n, .int .i64 on] w fun e w' => ∃ a c, e = .returned (.tuple #[(.agg #[.int .i64 ((payL l n on)).id, .int .i64 ((payL l n on)).ac, .int .i64 ((payL l n on)).st, .int .i64 ((payL l n on)).pp, .int .i64 ((payL l n on)).pi, .int .i64 ((payL l n on)).fee, .int .i64 ((payL l n on)).pen, .int .i64 ((payL l n on)).chg, .int .i64 ((payL l n on)).prov, .int .i64 ((payL l n on)).loss, .int .i64 ((payL l n on)).rcv, .int .i64 (((payL l n on)).tm).me, .int .i64 (((payL l n on)).tm).pr, .int .i64 (((payL l n on)).tm).ppm, .int .i64 (((payL l n on)).tm).stt, .int .i64 (((payL l n on)).tm).ev, .int .i64 (((payL l n on)).tm).ct, .int .i64 (((payL l n on)).tm).ba, .int .i64 (((payL l n on)).tm).mo, .int .i64 (((payL l n on)).tm).pen, .int .i64 (((payL l n on)).tm).fe, .string (((payL l n on)).tm).cal, .string (((payL l n on)).tm).cur, .slice da ((payL l n on)).ds.length dk, .slice ca ((payL l n on)).cs.length ck]), .slice a (payD l n on).pps.length c, .int .i64 0]) ∧ RowIn penc w' a (payD l n on).pps ∧ Below w.heap.size w w' := by
  have HC := Lib.hid (fun (W : World) (hW : Below w.heap.size w W) => rcheck_any l da ca dk ck W (h.later hW) hd)
  have HV := Lib.hid (fun (W : World) => rvalid_any on W)
  have HO := Lib.hid (fun (W : World) (hW : Below w.heap.size w W) => rowed_any l da ca dk ck on W (h.later hW))
  have HLF := Lib.hid (fun (L : Lo) (hL : L.ds = l.ds) (W : World) (hW : Below w.heap.size w W) => rleft_any L da ca dk ck W (by rw [hL]; exact h.later hW) (by rw [hL]; exact hd))
  have b2 : Below w.heap.size w ((w.alloc (.cells #[.int .i64 (l).id, .int .i64 (l).ac, .int .i64 (l).st, .int .i64 (l).pp, .int .i64 (l).pi, .int .i64 (l).fee, .int .i64 (l).pen, .int .i64 (l).chg, .int .i64 (l).prov, .int .i64 (l).loss, .int .i64 (l).rcv, .int .i64 ((l).tm).me, .int .i64 ((l).tm).pr, .int .i64 ((l).tm).ppm, .int .i64 ((l).tm).stt, .int .i64 ((l).tm).ev, .int .i64 ((l).tm).ct, .int .i64 ((l).tm).ba, .int .i64 ((l).tm).mo, .int .i64 ((l).tm).pen, .int .i64 ((l).tm).fe, .string ((l).tm).cal, .string ((l).tm).cur, .slice da (l).ds.length dk, .slice ca (l).cs.length ck] 27)).alloc (.cells #[.int .i64 0, .int .i64 0, .int .i64 0, .int .i64 0, .int .i64 0, .int .i64 0, .int .i64 0, .int .i64 0, .int .i64 0, .int .i64 0, .int .i64 0, .int .i64 0, .int .i64 0, .int .i64 0, .int .i64 0, .int .i64 0, .int .i64 0, .int .i64 0, .int .i64 0, .int .i64 0, .int .i64 0, .string .empty, .string .empty, .slice none 0 0, .slice none 0 0] 27)) := ((Below.refl _ _).alloc (Nat.le_refl _) _).alloc (by simp) _
  have hcond : chk l = 0 ∧ 1 ≤ n ∧ n ≤ 1000000000000 ∧ dayB on = true ∧ l.st = 1 := by
    rcases pay_err l n on with ⟨_, h⟩ | ⟨_, _, h⟩ | ⟨_, _, _, h⟩ | ⟨_, _, _, _, h⟩ | ⟨_, _, _, _, _, h⟩ | ⟨h1, h2, h3, h4, h5, _⟩
    · omega
    · omega
    · omega
    · omega
    · omega
    · exact ⟨h1, h2, h3, h4, h5⟩
  obtain ⟨c0, n1, n2, hday, hst⟩ := hcond
  have hOk := ok_iff.1 c0
  have HPO := Lib.hid (powed_ok hOk on)
  have HGO := Lib.hid (payGo_all (l := l) (show 0 ≤ n by omega) on)
  have HB0 := Lib.hid (show LBd l (1000000000000000 + (0 : Nat) * 1000000000000) by
    have s := hOk.sums on
    obtain ⟨f0, f1⟩ := amt_iff.1 hOk.fee
    obtain ⟨e0, e1⟩ := amt_iff.1 hOk.pen
    have := hOk.pp; have := hOk.pi; have := hOk.pp'; have := hOk.pi'; have := s.p2; have := s.i2
    unfold LBd; omega)
  rw [c0] at HC
  have g1 : decide (n < 1) = false := decide_eq_false (by omega)
  have g2 : decide (1000000000000 < n) = false := decide_eq_false (by omega)
  have g3 : (l.st != 1) = false := by rw [hst]; rfl
  clear c0 hst hOk he h
  go_enter Try.func17, Try.ntmps17
  go_wp2_with (refine wpList_load_row rfl 27 _ rfl _ rfl _ _ _ _ Bk.Blk.nw20 Try.underlying27 rfl (by kernel_rfl) ?_)
  refine (HC.out _ b2).mono ?_
  rintro e w1 ⟨rfl, hb1⟩
  have hk := Bk.Blk.later (g := w.heap.size) hb1 (Bk.Blk.nw20 (W := w) (cs := #[.int .i64 (l).id, .int .i64 (l).ac, .int .i64 (l).st, .int .i64 (l).pp, .int .i64 (l).pi, .int .i64 (l).fee, .int .i64 (l).pen, .int .i64 (l).chg, .int .i64 (l).prov, .int .i64 (l).loss, .int .i64 (l).rcv, .int .i64 ((l).tm).me, .int .i64 ((l).tm).pr, .int .i64 ((l).tm).ppm, .int .i64 ((l).tm).stt, .int .i64 ((l).tm).ev, .int .i64 ((l).tm).ct, .int .i64 ((l).tm).ba, .int .i64 ((l).tm).mo, .int .i64 ((l).tm).pen, .int .i64 ((l).tm).fe, .string ((l).tm).cal, .string ((l).tm).cur, .slice da (l).ds.length dk, .slice ca (l).cs.length ck]) (t := 27) (o1 := .cells #[.int .i64 0, .int .i64 0, .int .i64 0, .int .i64 0, .int .i64 0, .int .i64 0, .int .i64 0, .int .i64 0, .int .i64 0, .int .i64 0, .int .i64 0, .int .i64 0, .int .i64 0, .int .i64 0, .int .i64 0, .int .i64 0, .int .i64 0, .int .i64 0, .int .i64 0, .int .i64 0, .int .i64 0, .string .empty, .string .empty, .slice none 0 0, .slice none 0 0] 27))
  have hz := Bk.Blk.later (g := w.heap.size + 1) hb1 (Bk.Blk.nw21 (W := w) (cs := #[.int .i64 0, .int .i64 0, .int .i64 0, .int .i64 0, .int .i64 0, .int .i64 0, .int .i64 0, .int .i64 0, .int .i64 0, .int .i64 0, .int .i64 0, .int .i64 0, .int .i64 0, .int .i64 0, .int .i64 0, .int .i64 0, .int .i64 0, .int .i64 0, .int .i64 0, .int .i64 0, .int .i64 0, .string .empty, .string .empty, .slice none 0 0, .slice none 0 0]) (t := 27) (o0 := .cells #[.int .i64 (l).id, .int .i64 (l).ac, .int .i64 (l).st, .int .i64 (l).pp, .int .i64 (l).pi, .int .i64 (l).fee, .int .i64 (l).pen, .int .i64 (l).chg, .int .i64 (l).prov, .int .i64 (l).loss, .int .i64 (l).rcv, .int .i64 ((l).tm).me, .int .i64 ((l).tm).pr, .int .i64 ((l).tm).ppm, .int .i64 ((l).tm).stt, .int .i64 ((l).tm).ev, .int .i64 ((l).tm).ct, .int .i64 ((l).tm).ba, .int .i64 ((l).tm).mo, .int .i64 ((l).tm).pen, .int .i64 ((l).tm).fe, .string ((l).tm).cal, .string ((l).tm).cur, .slice da (l).ds.length dk, .slice ca (l).cs.length ck] 27))
  have b1 := bl2 hb1 b2
  clear hb1
  go_wp2_with fail
  refine (HV.out _).mono ?_
  rintro e w' ⟨rfl, rfl⟩
  rw [hday]
  have l2 := hk.c2
  go_upto_region 6 with fail
  clear l2
  go_wp2_with (refine wpList_load_row rfl 27 _ rfl _ rfl _ _ _ _ (hk) Try.underlying27 rfl (by kernel_rfl) ?_)
  refine (HO.out _ b1).mono ?_
  rintro e w3 ⟨a, c, rfl, hrow, hfr, hb3⟩
  have hz1 := b1.size
  have hlt1 := hk.lt
  have hlt2 := hz.lt
  replace hk := hk.later hb3
  replace hz := hz.later hb3
  have b3 := bl2 hb3 b1
  have HFR := Lib.hid (show ∀ ad, a = some ad → w.heap.size + 1 < ad.block from fun ad had => by have := hfr ad had; omega)
  clear hb3 hfr
  have hln : (powed l on).length ≤ 4 := by unfold powed; exact pparts_len _
  generalize hOW : powed l on = ow at *
  have HOW := Lib.hid hOW
  clear hOW
  go_wp2_with fail
  go_loopg [1, 9, 11] ow.length (RPL w l da ca dk ck ow a (payGo ow n l []))
  case atStart => exact ⟨0, n, l, [], by omega, rfl, rfl, PV.nil _ _, ⟨by simp [Value.ownBlock], by simp [Value.ownBlock], fun ad _ => by simp [Value.ownBlock]⟩, rfl, by omega, n2, by simp, HB0.out, rfl, rfl, hk, hz, hrow, b3⟩
  case round =>
    clear hk hz hrow b3 b1 b2 hz1 hlt1 hlt2
    obtain ⟨k, m, L, out, hkk, rfl, rfl, hpv, hap, hgo, m0, m1, hol, hbd, hds, hcs, hk, hz, hrow, hbr⟩ := hrel
    have HGOO := Lib.hid hgo
    have HAP := Lib.hid hap
    have HBD := Lib.hid hbd
    have HDS := Lib.hid hds
    have HCS := Lib.hid hcs
    have hzz := hbr.size
    have hl1 := hk.lt
    have hl2 := hz.lt
    clear hgo hap hbd hds hcs
    by_cases hlt : k < ow.length
    · by_cases hm : 0 < m
      · have gm : decide (0 < m) = true := decide_eq_true hm
        obtain ⟨b, off, rfl, hc⟩ := hrow.parts (by omega)
        obtain ⟨c0, c1⟩ := hc k hlt
        have hx := HPO.out ow[k]! (by rw [getElem!_pos ow k hlt]; exact List.getElem_mem hlt)
        have hbl := World.block_lt_of_cell? _ _ c0
        obtain ⟨am, ham⟩ : ∃ am, am = min m ow[k]!.am := ⟨_, rfl⟩
        have hif : (if ow[k]!.am < m then ow[k]!.am else m) = am := by rw [ham]; split <;> omega
        have hgo2 := HGOO.out
        rw [drop_get hlt, payGo_cons, if_pos hm, ← ham] at hgo2
        have HA := Lib.hid (show 0 ≤ am ∧ am ≤ m from by omega)
        have HG2 := Lib.hid hgo2
        have HK := Lib.hid hx.1
        clear hc hgo2 ham hx
        generalize ow[k]! = x at *
        have HIF := Lib.hid hif
        clear hif
        have c0' := cell_later ((Below.refl (wr).heap.size wr).alloc (Nat.le_refl _) (.cells #[.int .i64 0, .int .i64 0] 42)) c0
        have c1' := cell_later ((Below.refl (wr).heap.size wr).alloc (Nat.le_refl _) (.cells #[.int .i64 0, .int .i64 0] 42)) c1
        go_wp2_with fail
        go_region
        rw [HIF.out]
        clear HIF c0 c1 c0' c1'
        have hb5 : Below wr.heap.size wr (wr.alloc (.cells #[.int .i64 x.kd, .int .i64 am] 42)).drew := ((Below.refl _ _).alloc (Nat.le_refl _) _).drew
        have hn : Bk.Blk (wr.alloc (.cells #[.int .i64 x.kd, .int .i64 am] 42)).drew wr.heap.size #[.int .i64 x.kd, .int .i64 am] 42 := Bk.Blk.drew Bk.Blk.nw10
        replace hk := hk.later hb5
        replace hz := hz.later hb5
        replace hpv := hpv.later hb5
        replace hrow := hrow.later hb5
        have s5 := hb5.size
        have b5 := bl2 hb5 hbr
        have z5 := b5.size
        have hp0 := hn.c0
        have hp1 := hn.c1
        clear hb5 hbr
        generalize (wr.alloc (.cells #[.int .i64 x.kd, .int .i64 am] 42)).drew = w5 at *
        have hwm : IntKind.i64.wrap (m - am) = m - am := by rw [IntKind.wrap_i64]; have := HA.out; omega
        go_wp2_with (refine wpList_load_row rfl 27 _ rfl _ rfl _ _ _ _ (hk) Try.underlying27 rfl (by kernel_rfl) ?_)
        refine (rapply_any L da ca dk ck ⟨x.kd, am⟩ w5 HK.out (by have q := HBD.out; have := HA.out; unfold LBd at q; show _ ∧ _ ∧ _ ∧ _ ∧ _ ∧ _ ∧ _ ∧ _ ∧ _ ≤ am ∧ am ≤ _; omega)).mono ?_
        rintro e w6 ⟨rfl, hb6⟩
        replace hk := hk.later hb6
        replace hz := hz.later hb6
        replace hn := hn.later hb6
        replace hpv := hpv.later hb6
        replace hrow := hrow.later hb6
        have b6 := bl2 hb6 b5
        have z6 := b6.size
        have s6 := hb6.size
        clear hp0 hp1 hb6 b5
        have HBD' := Lib.hid ((HBD.out.app (p := ⟨x.kd, am⟩) HA.out.1).mono (d := 1000000000000000 + ((k + 1 : Nat) : Int) * 1000000000000) (by have := HA.out; show _ + am ≤ _; omega))
        have HDS' := Lib.hid ((app_same L ⟨x.kd, am⟩).1.trans HDS.out)
        have HCS' := Lib.hid ((app_same L ⟨x.kd, am⟩).2.trans HCS.out)
        generalize L.app ⟨x.kd, am⟩ = L1 at *
        go_upto_region 13 with (refine wpList_store_row rfl 27 _ _ rfl _ _ rfl rfl _ _ hk (by kernel_rfl) rfl (one25 ..) ?_)
        replace hz := Blk_setRow_ne (g' := w.heap.size) (cs' := #[.int .i64 (L1).id, .int .i64 (L1).ac, .int .i64 (L1).st, .int .i64 (L1).pp, .int .i64 (L1).pi, .int .i64 (L1).fee, .int .i64 (L1).pen, .int .i64 (L1).chg, .int .i64 (L1).prov, .int .i64 (L1).loss, .int .i64 (L1).rcv, .int .i64 ((L1).tm).me, .int .i64 ((L1).tm).pr, .int .i64 ((L1).tm).ppm, .int .i64 ((L1).tm).stt, .int .i64 ((L1).tm).ev, .int .i64 ((L1).tm).ct, .int .i64 ((L1).tm).ba, .int .i64 ((L1).tm).mo, .int .i64 ((L1).tm).pen, .int .i64 ((L1).tm).fe, .string ((L1).tm).cal, .string ((L1).tm).cur, .slice da (L1).ds.length dk, .slice ca (L1).cs.length ck]) hz (by omega)
        replace hn := Blk_setRow_ne (g' := w.heap.size) (cs' := #[.int .i64 (L1).id, .int .i64 (L1).ac, .int .i64 (L1).st, .int .i64 (L1).pp, .int .i64 (L1).pi, .int .i64 (L1).fee, .int .i64 (L1).pen, .int .i64 (L1).chg, .int .i64 (L1).prov, .int .i64 (L1).loss, .int .i64 (L1).rcv, .int .i64 ((L1).tm).me, .int .i64 ((L1).tm).pr, .int .i64 ((L1).tm).ppm, .int .i64 ((L1).tm).stt, .int .i64 ((L1).tm).ev, .int .i64 ((L1).tm).ct, .int .i64 ((L1).tm).ba, .int .i64 ((L1).tm).mo, .int .i64 ((L1).tm).pen, .int .i64 ((L1).tm).fe, .string ((L1).tm).cal, .string ((L1).tm).cur, .slice da (L1).ds.length dk, .slice ca (L1).cs.length ck]) hn (by omega)
        replace hpv := hpv.blk (W' := w6.setRow w.heap.size #[.int .i64 (L1).id, .int .i64 (L1).ac, .int .i64 (L1).st, .int .i64 (L1).pp, .int .i64 (L1).pi, .int .i64 (L1).fee, .int .i64 (L1).pen, .int .i64 (L1).chg, .int .i64 (L1).prov, .int .i64 (L1).loss, .int .i64 (L1).rcv, .int .i64 ((L1).tm).me, .int .i64 ((L1).tm).pr, .int .i64 ((L1).tm).ppm, .int .i64 ((L1).tm).stt, .int .i64 ((L1).tm).ev, .int .i64 ((L1).tm).ct, .int .i64 ((L1).tm).ba, .int .i64 ((L1).tm).mo, .int .i64 ((L1).tm).pen, .int .i64 ((L1).tm).fe, .string ((L1).tm).cal, .string ((L1).tm).cur, .slice da (L1).ds.length dk, .slice ca (L1).cs.length ck]) (fun g hg => setRow_other _ _ _ _ (fun he => HAP.out.1 (by rw [hg, he])))
        replace hrow := hrow.blk (W' := w6.setRow w.heap.size #[.int .i64 (L1).id, .int .i64 (L1).ac, .int .i64 (L1).st, .int .i64 (L1).pp, .int .i64 (L1).pi, .int .i64 (L1).fee, .int .i64 (L1).pen, .int .i64 (L1).chg, .int .i64 (L1).prov, .int .i64 (L1).loss, .int .i64 (L1).rcv, .int .i64 ((L1).tm).me, .int .i64 ((L1).tm).pr, .int .i64 ((L1).tm).ppm, .int .i64 ((L1).tm).stt, .int .i64 ((L1).tm).ev, .int .i64 ((L1).tm).ct, .int .i64 ((L1).tm).ba, .int .i64 ((L1).tm).mo, .int .i64 ((L1).tm).pen, .int .i64 ((L1).tm).fe, .string ((L1).tm).cal, .string ((L1).tm).cur, .slice da (L1).ds.length dk, .slice ca (L1).cs.length ck]) (fun ad had => setRow_other _ _ _ _ (fun he => by have := HFR.out ad had; omega))
        replace hk := Blk_setRow_same (cs := #[.int .i64 (L1).id, .int .i64 (L1).ac, .int .i64 (L1).st, .int .i64 (L1).pp, .int .i64 (L1).pi, .int .i64 (L1).fee, .int .i64 (L1).pen, .int .i64 (L1).chg, .int .i64 (L1).prov, .int .i64 (L1).loss, .int .i64 (L1).rcv, .int .i64 ((L1).tm).me, .int .i64 ((L1).tm).pr, .int .i64 ((L1).tm).ppm, .int .i64 ((L1).tm).stt, .int .i64 ((L1).tm).ev, .int .i64 ((L1).tm).ct, .int .i64 ((L1).tm).ba, .int .i64 ((L1).tm).mo, .int .i64 ((L1).tm).pen, .int .i64 ((L1).tm).fe, .string ((L1).tm).cal, .string ((L1).tm).cur, .slice da (L1).ds.length dk, .slice ca (L1).cs.length ck]) hk
        have b7 := Below_setRow b6 (Nat.le_refl _) #[.int .i64 (L1).id, .int .i64 (L1).ac, .int .i64 (L1).st, .int .i64 (L1).pp, .int .i64 (L1).pi, .int .i64 (L1).fee, .int .i64 (L1).pen, .int .i64 (L1).chg, .int .i64 (L1).prov, .int .i64 (L1).loss, .int .i64 (L1).rcv, .int .i64 ((L1).tm).me, .int .i64 ((L1).tm).pr, .int .i64 ((L1).tm).ppm, .int .i64 ((L1).tm).stt, .int .i64 ((L1).tm).ev, .int .i64 ((L1).tm).ct, .int .i64 ((L1).tm).ba, .int .i64 ((L1).tm).mo, .int .i64 ((L1).tm).pen, .int .i64 ((L1).tm).fe, .string ((L1).tm).cal, .string ((L1).tm).cur, .slice da (L1).ds.length dk, .slice ca (L1).cs.length ck]
        have s7 : w6.heap.size ≤ (w6.setRow w.heap.size #[.int .i64 (L1).id, .int .i64 (L1).ac, .int .i64 (L1).st, .int .i64 (L1).pp, .int .i64 (L1).pi, .int .i64 (L1).fee, .int .i64 (L1).pen, .int .i64 (L1).chg, .int .i64 (L1).prov, .int .i64 (L1).loss, .int .i64 (L1).rcv, .int .i64 ((L1).tm).me, .int .i64 ((L1).tm).pr, .int .i64 ((L1).tm).ppm, .int .i64 ((L1).tm).stt, .int .i64 ((L1).tm).ev, .int .i64 ((L1).tm).ct, .int .i64 ((L1).tm).ba, .int .i64 ((L1).tm).mo, .int .i64 ((L1).tm).pen, .int .i64 ((L1).tm).fe, .string ((L1).tm).cal, .string ((L1).tm).cur, .slice da (L1).ds.length dk, .slice ca (L1).cs.length ck]).heap.size := Nat.le_of_eq (size_setRow ..).symm
        generalize w6.setRow w.heap.size #[.int .i64 (L1).id, .int .i64 (L1).ac, .int .i64 (L1).st, .int .i64 (L1).pp, .int .i64 (L1).pi, .int .i64 (L1).fee, .int .i64 (L1).pen, .int .i64 (L1).chg, .int .i64 (L1).prov, .int .i64 (L1).loss, .int .i64 (L1).rcv, .int .i64 ((L1).tm).me, .int .i64 ((L1).tm).pr, .int .i64 ((L1).tm).ppm, .int .i64 ((L1).tm).stt, .int .i64 ((L1).tm).ev, .int .i64 ((L1).tm).ct, .int .i64 ((L1).tm).ba, .int .i64 ((L1).tm).mo, .int .i64 ((L1).tm).pen, .int .i64 ((L1).tm).fe, .string ((L1).tm).cal, .string ((L1).tm).cur, .slice da (L1).ds.length dk, .slice ca (L1).cs.length ck] = w7 at *
        have z7 := b7.size
        have hp0 := hn.c0
        have hp1 := hn.c1
        clear b6
        go_wp2_with (at_builtin; go_loud (refine app_part ⟨x.kd, am⟩ rfl _ _ rfl rfl hpv rfl (by omega) z7 ?_))
        intro v' w8 hpv' hgr hat
        have hal : Below w7.heap.size w7 (w7.alloc (.cells #[.int .i64 x.kd, .int .i64 am] 42)) := (Below.refl _ _).alloc (Nat.le_refl _) _
        have hk' := (hgr.block _ (by simp; omega) (Ne.symm HAP.out.1)).trans hk.alloc
        have hz' := (hgr.block _ (by simp; omega) (Ne.symm HAP.out.2.1)).trans hz.alloc
        have hrow' := (hrow.later hal).blk (W' := w8) (fun ad had => hgr.block _ (by cases had; simp; omega) (Ne.symm (HAP.out.2.2 ad had)))
        have b8 : Below w.heap.size w w8 := (b7.alloc z7 _).grown hgr (by simp; omega) (fun j hj => (hpv.1.lt j hj).1)
        have HAP' : Hid (v'.ownBlock ≠ some w.heap.size ∧ v'.ownBlock ≠ some (w.heap.size + 1) ∧ ∀ ad, some (⟨b, off, none⟩ : Addr) = some ad → v'.ownBlock ≠ some ad.block) := Lib.hid (by
          rcases hat with hat | hat
          · rw [hat]; exact HAP.out
          · rw [hat]; exact ⟨fun he => by have := Option.some.inj he; omega, fun he => by have := Option.some.inj he; omega, fun ad had he => by cases had; have := Option.some.inj he; simp at this; omega⟩)
        have HPV := Lib.hid hpv'
        clear hpv hpv' hat hgr hk hz hn hrow b7 hp0 hp1 hal hwm
        go_wp2_with fail
        go_roundg (gk - 1)
        case measure => omega
        case rel => exact ⟨k + 1, m - am, L1, out ++ [⟨x.kd, am⟩], by omega, by go_num, rfl, HPV.out, HAP'.out, HG2.out, by have := HA.out; omega, by have := HA.out; omega, by simp; omega, HBD'.out, HDS'.out, HCS'.out, hk', hz', hrow', b8⟩
      · have gm : decide (0 < m) = false := decide_eq_false hm
        have hend : (m, L, out) = payGo ow n l [] := by
          rw [← HGOO.out, drop_get hlt, payGo_cons, if_neg hm]
        have HEND := Lib.hid hend
        have hr1 : (payD l n on).r = m := (congrArg Prod.fst (HGO.out.symm.trans HEND.out.symm))
        have hr2 : l.take (payD l n on) = L := (congrArg (fun x => x.2.1) (HGO.out.symm.trans HEND.out.symm))
        have hr3 : pparts [⟨1, (payD l n on).a⟩, ⟨2, (payD l n on).b⟩, ⟨3, (payD l n on).c⟩, ⟨4, (payD l n on).d⟩] = out := (congrArg (fun x => x.2.2) (HGO.out.symm.trans HEND.out.symm))
        have HP5 := Lib.hid (show (payD l n on).pps = out by rw [pps_eq, hr3, hr1]; simp [pparts]; omega)
        have HPL := Lib.hid (show payL l n on = L.done by unfold payL; rw [hr2])
        clear hr1 hr2 hr3 HEND hrow
        have hk' := hk; have hz' := hz; have b8 := hbr
        have HAP' := Lib.hid (And.intro HAP.out.1 HAP.out.2.1)
        obtain ⟨a', c', rfl, hrow', hfr'⟩ := hpv.row
        clear hpv hk hz hbr HAP
        go_upto_region 16 with fail
        have z8 := b8.size
        go_wp2_with (refine wpList_load_row rfl 27 _ rfl _ rfl _ _ _ _ (hk') Try.underlying27 rfl (by kernel_rfl) ?_)
        refine (HLF.out L HDS.out _ b8).mono ?_
        rintro e w9 ⟨rfl, hb9⟩
        have s9 := hb9.size
        have y8 := hk'.lt
        have y9 := hz'.lt
        replace hk' := hk'.later hb9
        replace hz' := hz'.later hb9
        replace hrow' := hrow'.later hb9
        have b9 := bl2 hb9 b8
        clear b8 hb9 HLF
        have HROW := Lib.hid hrow'
        have HFR' := Lib.hid hfr'
        clear hrow' hfr'
        cases hleft : leftB L
        · have HPX := Lib.hid (HPL.out.trans (show L.done = { L with st := 2 } by unfold Lo.done; rw [hleft]; rfl))
          clear HPL hleft
          obtain ⟨L1, hL1⟩ : ∃ L1 : Lo, L1 = { L with st := 2 } := ⟨_, rfl⟩
          rw [← hL1] at HPX
          have hk2 : Bk.Blk (w9.setCell ⟨w.heap.size, 2, none⟩ (.int .i64 2)) w.heap.size #[.int .i64 (L1).id, .int .i64 (L1).ac, .int .i64 (L1).st, .int .i64 (L1).pp, .int .i64 (L1).pi, .int .i64 (L1).fee, .int .i64 (L1).pen, .int .i64 (L1).chg, .int .i64 (L1).prov, .int .i64 (L1).loss, .int .i64 (L1).rcv, .int .i64 ((L1).tm).me, .int .i64 ((L1).tm).pr, .int .i64 ((L1).tm).ppm, .int .i64 ((L1).tm).stt, .int .i64 ((L1).tm).ev, .int .i64 ((L1).tm).ct, .int .i64 ((L1).tm).ba, .int .i64 ((L1).tm).mo, .int .i64 ((L1).tm).pen, .int .i64 ((L1).tm).fe, .string ((L1).tm).cal, .string ((L1).tm).cur, .slice da (L1).ds.length dk, .slice ca (L1).cs.length ck] 27 := by rw [hL1]; exact hk'.set_same
          have hz2 : Bk.Blk (w9.setCell ⟨w.heap.size, 2, none⟩ (.int .i64 2)) (w.heap.size + 1) #[.int .i64 0, .int .i64 0, .int .i64 0, .int .i64 0, .int .i64 0, .int .i64 0, .int .i64 0, .int .i64 0, .int .i64 0, .int .i64 0, .int .i64 0, .int .i64 0, .int .i64 0, .int .i64 0, .int .i64 0, .int .i64 0, .int .i64 0, .int .i64 0, .int .i64 0, .int .i64 0, .int .i64 0, .string .empty, .string .empty, .slice none 0 0, .slice none 0 0] 27 := hz'.set_ne (by omega)
          have b10 : Below w.heap.size w (w9.setCell ⟨w.heap.size, 2, none⟩ (.int .i64 2)) := b9.setCell (Nat.le_refl _) _
          have hrow2 := HROW.out.blk (W' := w9.setCell ⟨w.heap.size, 2, none⟩ (.int .i64 2)) (fun ad had => Below.heap_setCell _ _ _ _ (fun he => by have := HFR'.out ad had; cases had; exact HAP'.out.1 (by simp only [Value.ownBlock]; exact congrArg some he)))
          have l2 := hk'.c2
          have f2 := hk'.f2
          clear hL1
          go_upto_region 18 with fail
          clear l2 f2 hk' hz' b9 HROW
          generalize w9.setCell ⟨w.heap.size, 2, none⟩ (.int .i64 2) = w10 at *
          have HROW2 := Lib.hid hrow2
          clear hrow2
          go_wp2_with (first | (refine wpList_load_row rfl 27 _ rfl _ rfl _ _ _ _ (hk2) Try.underlying27 rfl (by kernel_rfl) ?_) | (refine wpList_store_row rfl 27 _ _ rfl _ _ rfl rfl _ _ hz2 (by kernel_rfl) rfl (one25 ..) ?_))
          (try simp only [Exit.inBlock, Exit.then])
          refine bodyPost_ret (results3_cell Try.results17 _ _ _ _ _ _ _ rfl (Blk_setRow_same hz2) Try.underlying27 rfl (by kernel_rfl)) rfl ?_
          refine ⟨a', c', by rw [HPX.out, HP5.out]; rfl, ?_, Below_setRow b10 (by omega) _⟩
          rw [HP5.out]
          exact HROW2.out.blk (fun ad had => setRow_other _ _ _ _ (fun he => by cases had; exact HAP'.out.2 (by simp only [Value.ownBlock]; exact congrArg some he)))
        · have HPX := Lib.hid (HPL.out.trans (show L.done = L by unfold Lo.done; rw [hleft]; rfl))
          clear HPL hleft
          have hk2 := hk'; have hz2 := hz'; have b10 := b9; have hrow2 := HROW.out
          clear hk' hz' b9 HROW
          go_upto_region 18 with fail
          have HROW2 := Lib.hid hrow2
          clear hrow2
          go_wp2_with (first | (refine wpList_load_row rfl 27 _ rfl _ rfl _ _ _ _ (hk2) Try.underlying27 rfl (by kernel_rfl) ?_) | (refine wpList_store_row rfl 27 _ _ rfl _ _ rfl rfl _ _ hz2 (by kernel_rfl) rfl (one25 ..) ?_))
          (try simp only [Exit.inBlock, Exit.then])
          refine bodyPost_ret (results3_cell Try.results17 _ _ _ _ _ _ _ rfl (Blk_setRow_same hz2) Try.underlying27 rfl (by kernel_rfl)) rfl ?_
          refine ⟨a', c', by rw [HPX.out, HP5.out]; rfl, ?_, Below_setRow b10 (by omega) _⟩
          rw [HP5.out]
          exact HROW2.out.blk (fun ad had => setRow_other _ _ _ _ (fun he => by cases had; exact HAP'.out.2 (by simp only [Value.ownBlock]; exact congrArg some he)))
    · have hend : (m, L, out) = payGo ow n l [] := by
        rw [← HGOO.out, List.drop_eq_nil_of_le (by omega)]; rfl
      have hkn : k = ow.length := by omega
      by_cases hm : 0 < m
      · have gm : decide (0 < m) = true := decide_eq_true hm
        have HEND := Lib.hid hend
        have hr1 : (payD l n on).r = m := (congrArg Prod.fst (HGO.out.symm.trans HEND.out.symm))
        have hr2 : l.take (payD l n on) = L := (congrArg (fun x => x.2.1) (HGO.out.symm.trans HEND.out.symm))
        have hr3 : pparts [⟨1, (payD l n on).a⟩, ⟨2, (payD l n on).b⟩, ⟨3, (payD l n on).c⟩, ⟨4, (payD l n on).d⟩] = out := (congrArg (fun x => x.2.2) (HGO.out.symm.trans HEND.out.symm))
        have HP5 := Lib.hid (show (payD l n on).pps = out ++ [⟨5, m⟩] by rw [pps_eq, hr3, hr1]; simp [pparts, hm])
        have HPL := Lib.hid (show payL l n on = L.done by unfold payL; rw [hr2])
        clear hr1 hr2 hr3 HEND hrow
        go_upto_region 16 with (at_builtin; refine app_part ⟨5, m⟩ rfl _ _ rfl rfl hpv rfl (by omega) hzz ?_)
        intro v' w8 hpv' hgr hat
        have hk' : Bk.Blk w8 w.heap.size #[.int .i64 (L).id, .int .i64 (L).ac, .int .i64 (L).st, .int .i64 (L).pp, .int .i64 (L).pi, .int .i64 (L).fee, .int .i64 (L).pen, .int .i64 (L).chg, .int .i64 (L).prov, .int .i64 (L).loss, .int .i64 (L).rcv, .int .i64 ((L).tm).me, .int .i64 ((L).tm).pr, .int .i64 ((L).tm).ppm, .int .i64 ((L).tm).stt, .int .i64 ((L).tm).ev, .int .i64 ((L).tm).ct, .int .i64 ((L).tm).ba, .int .i64 ((L).tm).mo, .int .i64 ((L).tm).pen, .int .i64 ((L).tm).fe, .string ((L).tm).cal, .string ((L).tm).cur, .slice da (L).ds.length dk, .slice ca (L).cs.length ck] 27 := (hgr.block _ (by simp; omega) (Ne.symm HAP.out.1)).trans hk.alloc
        have hz' : Bk.Blk w8 (w.heap.size + 1) #[.int .i64 0, .int .i64 0, .int .i64 0, .int .i64 0, .int .i64 0, .int .i64 0, .int .i64 0, .int .i64 0, .int .i64 0, .int .i64 0, .int .i64 0, .int .i64 0, .int .i64 0, .int .i64 0, .int .i64 0, .int .i64 0, .int .i64 0, .int .i64 0, .int .i64 0, .int .i64 0, .int .i64 0, .string .empty, .string .empty, .slice none 0 0, .slice none 0 0] 27 := (hgr.block _ (by simp; omega) (Ne.symm HAP.out.2.1)).trans hz.alloc
        have b8 : Below w.heap.size w w8 := (hbr.alloc hzz _).grown hgr (by simp; omega) (fun j hj => (hpv.1.lt j hj).1)
        have HAP' : Hid (v'.ownBlock ≠ some w.heap.size ∧ v'.ownBlock ≠ some (w.heap.size + 1)) := Lib.hid (by
          rcases hat with hat | hat
          · rw [hat]; exact ⟨HAP.out.1, HAP.out.2.1⟩
          · rw [hat]; exact ⟨fun he => by have := Option.some.inj he; omega, fun he => by have := Option.some.inj he; omega⟩)
        obtain ⟨a', c', rfl, hrow', hfr'⟩ := hpv'.row
        clear hpv hpv' hat hgr hk hz hbr HAP
        go_upto_region 16 with fail
        have z8 := b8.size
        go_wp2_with (refine wpList_load_row rfl 27 _ rfl _ rfl _ _ _ _ (hk') Try.underlying27 rfl (by kernel_rfl) ?_)
        refine (HLF.out L HDS.out _ b8).mono ?_
        rintro e w9 ⟨rfl, hb9⟩
        have s9 := hb9.size
        have y8 := hk'.lt
        have y9 := hz'.lt
        replace hk' := hk'.later hb9
        replace hz' := hz'.later hb9
        replace hrow' := hrow'.later hb9
        have b9 := bl2 hb9 b8
        clear b8 hb9 HLF
        have HROW := Lib.hid hrow'
        have HFR' := Lib.hid hfr'
        clear hrow' hfr'
        cases hleft : leftB L
        · have HPX := Lib.hid (HPL.out.trans (show L.done = { L with st := 2 } by unfold Lo.done; rw [hleft]; rfl))
          clear HPL hleft
          obtain ⟨L1, hL1⟩ : ∃ L1 : Lo, L1 = { L with st := 2 } := ⟨_, rfl⟩
          rw [← hL1] at HPX
          have hk2 : Bk.Blk (w9.setCell ⟨w.heap.size, 2, none⟩ (.int .i64 2)) w.heap.size #[.int .i64 (L1).id, .int .i64 (L1).ac, .int .i64 (L1).st, .int .i64 (L1).pp, .int .i64 (L1).pi, .int .i64 (L1).fee, .int .i64 (L1).pen, .int .i64 (L1).chg, .int .i64 (L1).prov, .int .i64 (L1).loss, .int .i64 (L1).rcv, .int .i64 ((L1).tm).me, .int .i64 ((L1).tm).pr, .int .i64 ((L1).tm).ppm, .int .i64 ((L1).tm).stt, .int .i64 ((L1).tm).ev, .int .i64 ((L1).tm).ct, .int .i64 ((L1).tm).ba, .int .i64 ((L1).tm).mo, .int .i64 ((L1).tm).pen, .int .i64 ((L1).tm).fe, .string ((L1).tm).cal, .string ((L1).tm).cur, .slice da (L1).ds.length dk, .slice ca (L1).cs.length ck] 27 := by rw [hL1]; exact hk'.set_same
          have hz2 : Bk.Blk (w9.setCell ⟨w.heap.size, 2, none⟩ (.int .i64 2)) (w.heap.size + 1) #[.int .i64 0, .int .i64 0, .int .i64 0, .int .i64 0, .int .i64 0, .int .i64 0, .int .i64 0, .int .i64 0, .int .i64 0, .int .i64 0, .int .i64 0, .int .i64 0, .int .i64 0, .int .i64 0, .int .i64 0, .int .i64 0, .int .i64 0, .int .i64 0, .int .i64 0, .int .i64 0, .int .i64 0, .string .empty, .string .empty, .slice none 0 0, .slice none 0 0] 27 := hz'.set_ne (by omega)
          have b10 : Below w.heap.size w (w9.setCell ⟨w.heap.size, 2, none⟩ (.int .i64 2)) := b9.setCell (Nat.le_refl _) _
          have hrow2 := HROW.out.blk (W' := w9.setCell ⟨w.heap.size, 2, none⟩ (.int .i64 2)) (fun ad had => Below.heap_setCell _ _ _ _ (fun he => by have := HFR'.out ad had; cases had; exact HAP'.out.1 (by simp only [Value.ownBlock]; exact congrArg some he)))
          have l2 := hk'.c2
          have f2 := hk'.f2
          clear hL1
          go_upto_region 18 with fail
          clear l2 f2 hk' hz' b9 HROW
          generalize w9.setCell ⟨w.heap.size, 2, none⟩ (.int .i64 2) = w10 at *
          have HROW2 := Lib.hid hrow2
          clear hrow2
          go_wp2_with (first | (refine wpList_load_row rfl 27 _ rfl _ rfl _ _ _ _ (hk2) Try.underlying27 rfl (by kernel_rfl) ?_) | (refine wpList_store_row rfl 27 _ _ rfl _ _ rfl rfl _ _ hz2 (by kernel_rfl) rfl (one25 ..) ?_))
          (try simp only [Exit.inBlock, Exit.then])
          refine bodyPost_ret (results3_cell Try.results17 _ _ _ _ _ _ _ rfl (Blk_setRow_same hz2) Try.underlying27 rfl (by kernel_rfl)) rfl ?_
          refine ⟨a', c', by rw [HPX.out, HP5.out, List.length_append]; rfl, ?_, Below_setRow b10 (by omega) _⟩
          rw [HP5.out]
          exact HROW2.out.blk (fun ad had => setRow_other _ _ _ _ (fun he => by cases had; exact HAP'.out.2 (by simp only [Value.ownBlock]; exact congrArg some he)))
        · have HPX := Lib.hid (HPL.out.trans (show L.done = L by unfold Lo.done; rw [hleft]; rfl))
          clear HPL hleft
          have hk2 := hk'; have hz2 := hz'; have b10 := b9; have hrow2 := HROW.out
          clear hk' hz' b9 HROW
          go_upto_region 18 with fail
          have HROW2 := Lib.hid hrow2
          clear hrow2
          go_wp2_with (first | (refine wpList_load_row rfl 27 _ rfl _ rfl _ _ _ _ (hk2) Try.underlying27 rfl (by kernel_rfl) ?_) | (refine wpList_store_row rfl 27 _ _ rfl _ _ rfl rfl _ _ hz2 (by kernel_rfl) rfl (one25 ..) ?_))
          (try simp only [Exit.inBlock, Exit.then])
          refine bodyPost_ret (results3_cell Try.results17 _ _ _ _ _ _ _ rfl (Blk_setRow_same hz2) Try.underlying27 rfl (by kernel_rfl)) rfl ?_
          refine ⟨a', c', by rw [HPX.out, HP5.out, List.length_append]; rfl, ?_, Below_setRow b10 (by omega) _⟩
          rw [HP5.out]
          exact HROW2.out.blk (fun ad had => setRow_other _ _ _ _ (fun he => by cases had; exact HAP'.out.2 (by simp only [Value.ownBlock]; exact congrArg some he)))
      · have gm : decide (0 < m) = false := decide_eq_false hm
        have HEND := Lib.hid hend
        have hr1 : (payD l n on).r = m := (congrArg Prod.fst (HGO.out.symm.trans HEND.out.symm))
        have hr2 : l.take (payD l n on) = L := (congrArg (fun x => x.2.1) (HGO.out.symm.trans HEND.out.symm))
        have hr3 : pparts [⟨1, (payD l n on).a⟩, ⟨2, (payD l n on).b⟩, ⟨3, (payD l n on).c⟩, ⟨4, (payD l n on).d⟩] = out := (congrArg (fun x => x.2.2) (HGO.out.symm.trans HEND.out.symm))
        have HP5 := Lib.hid (show (payD l n on).pps = out by rw [pps_eq, hr3, hr1]; simp [pparts]; omega)
        have HPL := Lib.hid (show payL l n on = L.done by unfold payL; rw [hr2])
        clear hr1 hr2 hr3 HEND hrow
        have hk' := hk; have hz' := hz; have b8 := hbr
        have HAP' := Lib.hid (And.intro HAP.out.1 HAP.out.2.1)
        obtain ⟨a', c', rfl, hrow', hfr'⟩ := hpv.row
        clear hpv hk hz hbr HAP
        go_upto_region 16 with fail
        have z8 := b8.size
        go_wp2_with (refine wpList_load_row rfl 27 _ rfl _ rfl _ _ _ _ (hk') Try.underlying27 rfl (by kernel_rfl) ?_)
        refine (HLF.out L HDS.out _ b8).mono ?_
        rintro e w9 ⟨rfl, hb9⟩
        have s9 := hb9.size
        have y8 := hk'.lt
        have y9 := hz'.lt
        replace hk' := hk'.later hb9
        replace hz' := hz'.later hb9
        replace hrow' := hrow'.later hb9
        have b9 := bl2 hb9 b8
        clear b8 hb9 HLF
        have HROW := Lib.hid hrow'
        have HFR' := Lib.hid hfr'
        clear hrow' hfr'
        cases hleft : leftB L
        · have HPX := Lib.hid (HPL.out.trans (show L.done = { L with st := 2 } by unfold Lo.done; rw [hleft]; rfl))
          clear HPL hleft
          obtain ⟨L1, hL1⟩ : ∃ L1 : Lo, L1 = { L with st := 2 } := ⟨_, rfl⟩
          rw [← hL1] at HPX
          have hk2 : Bk.Blk (w9.setCell ⟨w.heap.size, 2, none⟩ (.int .i64 2)) w.heap.size #[.int .i64 (L1).id, .int .i64 (L1).ac, .int .i64 (L1).st, .int .i64 (L1).pp, .int .i64 (L1).pi, .int .i64 (L1).fee, .int .i64 (L1).pen, .int .i64 (L1).chg, .int .i64 (L1).prov, .int .i64 (L1).loss, .int .i64 (L1).rcv, .int .i64 ((L1).tm).me, .int .i64 ((L1).tm).pr, .int .i64 ((L1).tm).ppm, .int .i64 ((L1).tm).stt, .int .i64 ((L1).tm).ev, .int .i64 ((L1).tm).ct, .int .i64 ((L1).tm).ba, .int .i64 ((L1).tm).mo, .int .i64 ((L1).tm).pen, .int .i64 ((L1).tm).fe, .string ((L1).tm).cal, .string ((L1).tm).cur, .slice da (L1).ds.length dk, .slice ca (L1).cs.length ck] 27 := by rw [hL1]; exact hk'.set_same
          have hz2 : Bk.Blk (w9.setCell ⟨w.heap.size, 2, none⟩ (.int .i64 2)) (w.heap.size + 1) #[.int .i64 0, .int .i64 0, .int .i64 0, .int .i64 0, .int .i64 0, .int .i64 0, .int .i64 0, .int .i64 0, .int .i64 0, .int .i64 0, .int .i64 0, .int .i64 0, .int .i64 0, .int .i64 0, .int .i64 0, .int .i64 0, .int .i64 0, .int .i64 0, .int .i64 0, .int .i64 0, .int .i64 0, .string .empty, .string .empty, .slice none 0 0, .slice none 0 0] 27 := hz'.set_ne (by omega)
          have b10 : Below w.heap.size w (w9.setCell ⟨w.heap.size, 2, none⟩ (.int .i64 2)) := b9.setCell (Nat.le_refl _) _
          have hrow2 := HROW.out.blk (W' := w9.setCell ⟨w.heap.size, 2, none⟩ (.int .i64 2)) (fun ad had => Below.heap_setCell _ _ _ _ (fun he => by have := HFR'.out ad had; cases had; exact HAP'.out.1 (by simp only [Value.ownBlock]; exact congrArg some he)))
          have l2 := hk'.c2
          have f2 := hk'.f2
          clear hL1
          go_upto_region 18 with fail
          clear l2 f2 hk' hz' b9 HROW
          generalize w9.setCell ⟨w.heap.size, 2, none⟩ (.int .i64 2) = w10 at *
          have HROW2 := Lib.hid hrow2
          clear hrow2
          go_wp2_with (first | (refine wpList_load_row rfl 27 _ rfl _ rfl _ _ _ _ (hk2) Try.underlying27 rfl (by kernel_rfl) ?_) | (refine wpList_store_row rfl 27 _ _ rfl _ _ rfl rfl _ _ hz2 (by kernel_rfl) rfl (one25 ..) ?_))
          (try simp only [Exit.inBlock, Exit.then])
          refine bodyPost_ret (results3_cell Try.results17 _ _ _ _ _ _ _ rfl (Blk_setRow_same hz2) Try.underlying27 rfl (by kernel_rfl)) rfl ?_
          refine ⟨a', c', by rw [HPX.out, HP5.out]; rfl, ?_, Below_setRow b10 (by omega) _⟩
          rw [HP5.out]
          exact HROW2.out.blk (fun ad had => setRow_other _ _ _ _ (fun he => by cases had; exact HAP'.out.2 (by simp only [Value.ownBlock]; exact congrArg some he)))
        · have HPX := Lib.hid (HPL.out.trans (show L.done = L by unfold Lo.done; rw [hleft]; rfl))
          clear HPL hleft
          have hk2 := hk'; have hz2 := hz'; have b10 := b9; have hrow2 := HROW.out
          clear hk' hz' b9 HROW
          go_upto_region 18 with fail
          have HROW2 := Lib.hid hrow2
          clear hrow2
          go_wp2_with (first | (refine wpList_load_row rfl 27 _ rfl _ rfl _ _ _ _ (hk2) Try.underlying27 rfl (by kernel_rfl) ?_) | (refine wpList_store_row rfl 27 _ _ rfl _ _ rfl rfl _ _ hz2 (by kernel_rfl) rfl (one25 ..) ?_))
          (try simp only [Exit.inBlock, Exit.then])
          refine bodyPost_ret (results3_cell Try.results17 _ _ _ _ _ _ _ rfl (Blk_setRow_same hz2) Try.underlying27 rfl (by kernel_rfl)) rfl ?_
          refine ⟨a', c', by rw [HPX.out, HP5.out]; rfl, ?_, Below_setRow b10 (by omega) _⟩
          rw [HP5.out]
          exact HROW2.out.blk (fun ad had => setRow_other _ _ _ _ (fun he => by cases had; exact HAP'.out.2 (by simp only [Value.ownBlock]; exact congrArg some he)))
end Go.Proofs.Ytaibocobeibobaa.Ln
