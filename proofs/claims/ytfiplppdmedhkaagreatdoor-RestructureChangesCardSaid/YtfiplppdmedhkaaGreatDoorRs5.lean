/-
  Change: the program's.
-/
import Derived.Test.YtfiplppdmedhkaaGreatDoorRsa
import Derived.Test.YtfiplppdmedhkaaGreatDoorSk4
import Derived.Test.YtfiplppdmedhkaaGreatDoorSr
import Derived.Test.YtfiplppdmedhkaaGreatDoorLs1
import Derived.Deep.CutBlock
import Derived.Test.YtfiplppdmedhkaaGreatDoorZl
namespace Go.Proofs.YtfiplppdmedhkaaGreatDoor.Ln
open Go Go.RowKit
open Go.Proofs.YtfiplppdmedhkaaGreatDoor
open Go.Proofs.YtfiplppdmedhkaaGreatDoor.Kl (Cl CalIn skE skchk_any sk_ok blE blV bl_facts bl_len BlOut ls_inj)
set_option linter.unusedSimpArgs false
set_option linter.unusedVariables false
set_option maxRecDepth 100000

theorem own_ne {g h n c : Nat} (hn : g ≠ h) : (Value.slice (some ⟨g, 0, none⟩) n c).ownBlock ≠ some h := fun e => hn (Option.some.inj e)
theorem maxlen_le {n : Nat} (h : n ≤ 100000) : n + 1 ≤ maxLen := by unfold maxLen; omega
/-- A loan with new terms, as Change returns it. -/
def ChOut (l : Lo) (t : Tm) (day : Int) (c : Cl) (w : World) (e : Ending) (w' : World) : Prop := ∃ da dk ca ck, e = .returned (.tuple #[(.agg #[.int .i64 ((chL l t day c)).id, .int .i64 ((chL l t day c)).ac, .int .i64 ((chL l t day c)).st, .int .i64 ((chL l t day c)).pp, .int .i64 ((chL l t day c)).pi, .int .i64 ((chL l t day c)).fee, .int .i64 ((chL l t day c)).pen, .int .i64 ((chL l t day c)).chg, .int .i64 ((chL l t day c)).prov, .int .i64 ((chL l t day c)).loss, .int .i64 ((chL l t day c)).rcv, .int .i64 (((chL l t day c)).tm).me, .int .i64 (((chL l t day c)).tm).pr, .int .i64 (((chL l t day c)).tm).ppm, .int .i64 (((chL l t day c)).tm).stt, .int .i64 (((chL l t day c)).tm).ev, .int .i64 (((chL l t day c)).tm).ct, .int .i64 (((chL l t day c)).tm).ba, .int .i64 (((chL l t day c)).tm).mo, .int .i64 (((chL l t day c)).tm).pen, .int .i64 (((chL l t day c)).tm).fe, .string (((chL l t day c)).tm).cal, .string (((chL l t day c)).tm).cur, .slice da ((chL l t day c)).ds.length dk, .slice ca ((chL l t day c)).cs.length ck]), .int .i64 (chE l t day c)]) ∧ DuesIn w' da (chL l t day c).ds ∧ RowIn cenc w' ca (chL l t day c).cs ∧ ((∀ ad, da = some ad → w.heap.size ≤ ad.block) ∧ (∀ ad, ca = some ad → w.heap.size ≤ ad.block)) ∧ Below w.heap.size w w'
theorem chOut_no {l : Lo} {t : Tm} {day : Int} {c : Cl} {w w' : World} {E : Int} (h : chE l t day c = E) (h0 : E ≠ 0) (hb : Below w.heap.size w w') : ChOut l t day c w (.returned (.tuple #[.agg #[.int .i64 0, .int .i64 0, .int .i64 0, .int .i64 0, .int .i64 0, .int .i64 0, .int .i64 0, .int .i64 0, .int .i64 0, .int .i64 0, .int .i64 0, .int .i64 0, .int .i64 0, .int .i64 0, .int .i64 0, .int .i64 0, .int .i64 0, .int .i64 0, .int .i64 0, .int .i64 0, .int .i64 0, .string { data := #[] }, .string { data := #[] }, .slice none 0 0, .slice none 0 0], .int .i64 E])) w' := by
  have hl : chL l t day c = zLo := if_neg (by rw [h]; exact h0)
  refine ⟨none, 0, none, 0, ?_, ?_, ?_, ⟨fun _ h => (by cases h), fun _ h => (by cases h)⟩, hb⟩
  · rw [hl, h]; rfl
  · rw [hl]; exact ⟨by decide, fun h => by simp [zLo] at h⟩
  · rw [hl]; exact fun h => by simp [zLo] at h
theorem chOut_ok {l : Lo} {t : Tm} {day N : Int} {c : Cl} {w w' : World} {da2 a7 : Option Addr} {dk2 c7 : Nat} {ls : List Du} (h : chE l t day c = 0) (hl : ls = blV t c) (hN : N = capN l day) (hd : DuesIn w' da2 ls) (hr : RowIn cenc w' a7 (l.cs ++ [(⟨day, N, l.tm⟩ : Ch)])) (hfr : (∀ ad, da2 = some ad → w.heap.size ≤ ad.block) ∧ (∀ ad, a7 = some ad → w.heap.size ≤ ad.block)) (hb : Below w.heap.size w w') : ChOut l t day c w (.returned (.tuple #[.agg #[.int .i64 l.id, .int .i64 l.ac, .int .i64 l.st, .int .i64 0, .int .i64 0, .int .i64 0, .int .i64 0, .int .i64 (max l.chg day), .int .i64 l.prov, .int .i64 l.loss, .int .i64 l.rcv, .int .i64 t.me, .int .i64 t.pr, .int .i64 t.ppm, .int .i64 t.stt, .int .i64 t.ev, .int .i64 t.ct, .int .i64 t.ba, .int .i64 t.mo, .int .i64 t.pen, .int .i64 t.fe, .string t.cal, .string t.cur, .slice da2 ls.length dk2, .slice a7 (l.cs.length + 1) c7], .int .i64 0])) w' := by
  subst hl
  subst hN
  have hL : chL l t day c = chO l t day c := if_pos h
  refine ⟨da2, dk2, a7, c7, ?_, ?_, ?_, hfr, hb⟩
  · rw [hL, h]
    have hn : (chO l t day c).cs.length = l.cs.length + 1 := by simp [chO]
    rw [hn]
    rfl
  · rw [hL]; exact hd
  · rw [hL]; exact hr
theorem chE_1 {l : Lo} {t : Tm} {day : Int} {c : Cl} (h : skE t c ≠ 0) : chE l t day c = skE t c := if_pos h
theorem chE_2 {l : Lo} {t : Tm} {day : Int} {c : Cl} (h : ¬ skE t c ≠ 0) (h2 : capE l day ≠ 0) : chE l t day c = capE l day := (if_neg h).trans (if_pos h2)
theorem chE_3 {l : Lo} {t : Tm} {day : Int} {c : Cl} (h : ¬ skE t c ≠ 0) (h2 : ¬ capE l day ≠ 0) (h3 : badB l t day = true) : chE l t day c = 1 := ((if_neg h).trans (if_neg h2)).trans (if_pos h3)
theorem chE_4 {l : Lo} {t : Tm} {day : Int} {c : Cl} (h : ¬ skE t c ≠ 0) (h2 : ¬ capE l day ≠ 0) (h3 : badB l t day = false) (h4 : 64 ≤ l.cs.length) : chE l t day c = 5 := ((if_neg h).trans (if_neg h2)).trans ((if_neg (by rw [h3]; simp)).trans (if_pos h4))
theorem chE_5 {l : Lo} {t : Tm} {day : Int} {c : Cl} (h : ¬ skE t c ≠ 0) (h2 : ¬ capE l day ≠ 0) (h3 : badB l t day = false) (h4 : ¬ 64 ≤ l.cs.length) : chE l t day c = blE t c := ((if_neg h).trans (if_neg h2)).trans ((if_neg (by rw [h3]; simp)).trans (if_neg h4))
theorem bad_1 {l : Lo} {t : Tm} {day : Int} (h : t.stt ≠ day) : badB l t day = true := by unfold badB; rw [decide_eq_true h]; rfl
theorem bad_2 {l : Lo} {t : Tm} {day : Int} (h : t.pr ≠ capN l day) : badB l t day = true := by unfold badB; rw [decide_eq_true h]; simp
theorem bad_3 {l : Lo} {t : Tm} {day : Int} (h : t.cur ≠ l.tm.cur) : badB l t day = true := by unfold badB; rw [decide_eq_true h]; simp
theorem bad_4 {l : Lo} {t : Tm} {day : Int} (h0 : 0 < l.cs.length) (h : day < l.cs[l.cs.length - 1]!.day) : badB l t day = true := by unfold badB; rw [decide_eq_true h0, decide_eq_true h]; simp
theorem bad_0 {l : Lo} {t : Tm} {day : Int} (h1 : t.stt = day) (h2 : t.pr = capN l day) (h3 : t.cur = l.tm.cur) (h4 : 0 < l.cs.length → ¬ day < l.cs[l.cs.length - 1]!.day) : badB l t day = false := by
  unfold badB
  rw [decide_eq_false (by simpa using h1), decide_eq_false (by simpa using h2), decide_eq_false (by simpa using h3)]
  by_cases h0 : 0 < l.cs.length
  · rw [decide_eq_true h0, decide_eq_false (h4 h0)]; rfl
  · rw [decide_eq_false h0]; rfl
set_option maxHeartbeats 32000000 in
theorem change_any (l : Lo) (da ca : Option Addr) (dk ck : Nat) (t : Tm) (day : Int) (c : Cl) (wa ha : Option Addr) (wc hc : Nat) (w : World) (h : DuesIn w da l.ds) (h' : RowIn cenc w ca l.cs) (hk : Dok l.ds) (hn : l.ds.length ≤ 100000) (hm : l.cs.length ≤ 100000) (hcal : CalIn w c wa ha) (hcu : t.cur.size ≤ maxLen) (hs : Rd.Stp w) :
    Calls Tryz.prog 49 #[(.agg #[.int .i64 (l).id, .int .i64 (l).ac, .int .i64 (l).st, .int .i64 (l).pp, .int .i64 (l).pi, .int .i64 (l).fee, .int .i64 (l).pen, .int .i64 (l).chg, .int .i64 (l).prov, .int .i64 (l).loss, .int .i64 (l).rcv, .int .i64 ((l).tm).me, .int .i64 ((l).tm).pr, .int .i64 ((l).tm).ppm, .int .i64 ((l).tm).stt, .int .i64 ((l).tm).ev, .int .i64 ((l).tm).ct, .int .i64 ((l).tm).ba, .int .i64 ((l).tm).mo, .int .i64 ((l).tm).pen, .int .i64 ((l).tm).fe, .string ((l).tm).cal, .string ((l).tm).cur, .slice da (l).ds.length dk, .slice ca (l).cs.length ck]), (.agg #[.int .i64 (t).me, .int .i64 (t).pr, .int .i64 (t).ppm, .int .i64 (t).stt, .int .i64 (t).ev, .int .i64 (t).ct, .int .i64 (t).ba, .int .i64 (t).mo, .int .i64 (t).pen, .int .i64 (t).fe, .string (t).cal, .string (t).cur]), .int .i64 day, (.agg #[.string (c).nm, .slice wa (c).wk.length wc, .slice ha (c).hol.length hc])] w (ChOut l t day c w) := by
  have cw : Below w.heap.size w ((((w.alloc (.cells #[.int .i64 (l).id, .int .i64 (l).ac, .int .i64 (l).st, .int .i64 (l).pp, .int .i64 (l).pi, .int .i64 (l).fee, .int .i64 (l).pen, .int .i64 (l).chg, .int .i64 (l).prov, .int .i64 (l).loss, .int .i64 (l).rcv, .int .i64 ((l).tm).me, .int .i64 ((l).tm).pr, .int .i64 ((l).tm).ppm, .int .i64 ((l).tm).stt, .int .i64 ((l).tm).ev, .int .i64 ((l).tm).ct, .int .i64 ((l).tm).ba, .int .i64 ((l).tm).mo, .int .i64 ((l).tm).pen, .int .i64 ((l).tm).fe, .string ((l).tm).cal, .string ((l).tm).cur, .slice da (l).ds.length dk, .slice ca (l).cs.length ck] 31)).alloc (.cells #[.int .i64 (t).me, .int .i64 (t).pr, .int .i64 (t).ppm, .int .i64 (t).stt, .int .i64 (t).ev, .int .i64 (t).ct, .int .i64 (t).ba, .int .i64 (t).mo, .int .i64 (t).pen, .int .i64 (t).fe, .string (t).cal, .string (t).cur] 23)).alloc (.cells #[.string c.nm, .slice wa c.wk.length wc, .slice ha c.hol.length hc] 26)).alloc (.cells #[.int .i64 0, .int .i64 0, .int .i64 0, .int .i64 0, .int .i64 0, .int .i64 0, .int .i64 0, .int .i64 0, .int .i64 0, .int .i64 0, .int .i64 0, .int .i64 0, .int .i64 0, .int .i64 0, .int .i64 0, .int .i64 0, .int .i64 0, .int .i64 0, .int .i64 0, .int .i64 0, .int .i64 0, .string { data := #[] }, .string { data := #[] }, .slice none 0 0, .slice none 0 0] 31)) := ((((Below.refl _ _).alloc (Nat.le_refl _) _).alloc (by simp) _).alloc (by simp; omega) _).alloc (by simp; omega) _
  have k0 : Bk.Blk ((((w.alloc (.cells #[.int .i64 (l).id, .int .i64 (l).ac, .int .i64 (l).st, .int .i64 (l).pp, .int .i64 (l).pi, .int .i64 (l).fee, .int .i64 (l).pen, .int .i64 (l).chg, .int .i64 (l).prov, .int .i64 (l).loss, .int .i64 (l).rcv, .int .i64 ((l).tm).me, .int .i64 ((l).tm).pr, .int .i64 ((l).tm).ppm, .int .i64 ((l).tm).stt, .int .i64 ((l).tm).ev, .int .i64 ((l).tm).ct, .int .i64 ((l).tm).ba, .int .i64 ((l).tm).mo, .int .i64 ((l).tm).pen, .int .i64 ((l).tm).fe, .string ((l).tm).cal, .string ((l).tm).cur, .slice da (l).ds.length dk, .slice ca (l).cs.length ck] 31)).alloc (.cells #[.int .i64 (t).me, .int .i64 (t).pr, .int .i64 (t).ppm, .int .i64 (t).stt, .int .i64 (t).ev, .int .i64 (t).ct, .int .i64 (t).ba, .int .i64 (t).mo, .int .i64 (t).pen, .int .i64 (t).fe, .string (t).cal, .string (t).cur] 23)).alloc (.cells #[.string c.nm, .slice wa c.wk.length wc, .slice ha c.hol.length hc] 26)).alloc (.cells #[.int .i64 0, .int .i64 0, .int .i64 0, .int .i64 0, .int .i64 0, .int .i64 0, .int .i64 0, .int .i64 0, .int .i64 0, .int .i64 0, .int .i64 0, .int .i64 0, .int .i64 0, .int .i64 0, .int .i64 0, .int .i64 0, .int .i64 0, .int .i64 0, .int .i64 0, .int .i64 0, .int .i64 0, .string { data := #[] }, .string { data := #[] }, .slice none 0 0, .slice none 0 0] 31)) w.heap.size #[.int .i64 (l).id, .int .i64 (l).ac, .int .i64 (l).st, .int .i64 (l).pp, .int .i64 (l).pi, .int .i64 (l).fee, .int .i64 (l).pen, .int .i64 (l).chg, .int .i64 (l).prov, .int .i64 (l).loss, .int .i64 (l).rcv, .int .i64 ((l).tm).me, .int .i64 ((l).tm).pr, .int .i64 ((l).tm).ppm, .int .i64 ((l).tm).stt, .int .i64 ((l).tm).ev, .int .i64 ((l).tm).ct, .int .i64 ((l).tm).ba, .int .i64 ((l).tm).mo, .int .i64 ((l).tm).pen, .int .i64 ((l).tm).fe, .string ((l).tm).cal, .string ((l).tm).cur, .slice da (l).ds.length dk, .slice ca (l).cs.length ck] 31 := Bk.Blk.nw40
  have kt : Bk.Blk ((((w.alloc (.cells #[.int .i64 (l).id, .int .i64 (l).ac, .int .i64 (l).st, .int .i64 (l).pp, .int .i64 (l).pi, .int .i64 (l).fee, .int .i64 (l).pen, .int .i64 (l).chg, .int .i64 (l).prov, .int .i64 (l).loss, .int .i64 (l).rcv, .int .i64 ((l).tm).me, .int .i64 ((l).tm).pr, .int .i64 ((l).tm).ppm, .int .i64 ((l).tm).stt, .int .i64 ((l).tm).ev, .int .i64 ((l).tm).ct, .int .i64 ((l).tm).ba, .int .i64 ((l).tm).mo, .int .i64 ((l).tm).pen, .int .i64 ((l).tm).fe, .string ((l).tm).cal, .string ((l).tm).cur, .slice da (l).ds.length dk, .slice ca (l).cs.length ck] 31)).alloc (.cells #[.int .i64 (t).me, .int .i64 (t).pr, .int .i64 (t).ppm, .int .i64 (t).stt, .int .i64 (t).ev, .int .i64 (t).ct, .int .i64 (t).ba, .int .i64 (t).mo, .int .i64 (t).pen, .int .i64 (t).fe, .string (t).cal, .string (t).cur] 23)).alloc (.cells #[.string c.nm, .slice wa c.wk.length wc, .slice ha c.hol.length hc] 26)).alloc (.cells #[.int .i64 0, .int .i64 0, .int .i64 0, .int .i64 0, .int .i64 0, .int .i64 0, .int .i64 0, .int .i64 0, .int .i64 0, .int .i64 0, .int .i64 0, .int .i64 0, .int .i64 0, .int .i64 0, .int .i64 0, .int .i64 0, .int .i64 0, .int .i64 0, .int .i64 0, .int .i64 0, .int .i64 0, .string { data := #[] }, .string { data := #[] }, .slice none 0 0, .slice none 0 0] 31)) (w.heap.size + 1) #[.int .i64 (t).me, .int .i64 (t).pr, .int .i64 (t).ppm, .int .i64 (t).stt, .int .i64 (t).ev, .int .i64 (t).ct, .int .i64 (t).ba, .int .i64 (t).mo, .int .i64 (t).pen, .int .i64 (t).fe, .string (t).cal, .string (t).cur] 23 := Bk.Blk.nw41
  have kc : Bk.Blk ((((w.alloc (.cells #[.int .i64 (l).id, .int .i64 (l).ac, .int .i64 (l).st, .int .i64 (l).pp, .int .i64 (l).pi, .int .i64 (l).fee, .int .i64 (l).pen, .int .i64 (l).chg, .int .i64 (l).prov, .int .i64 (l).loss, .int .i64 (l).rcv, .int .i64 ((l).tm).me, .int .i64 ((l).tm).pr, .int .i64 ((l).tm).ppm, .int .i64 ((l).tm).stt, .int .i64 ((l).tm).ev, .int .i64 ((l).tm).ct, .int .i64 ((l).tm).ba, .int .i64 ((l).tm).mo, .int .i64 ((l).tm).pen, .int .i64 ((l).tm).fe, .string ((l).tm).cal, .string ((l).tm).cur, .slice da (l).ds.length dk, .slice ca (l).cs.length ck] 31)).alloc (.cells #[.int .i64 (t).me, .int .i64 (t).pr, .int .i64 (t).ppm, .int .i64 (t).stt, .int .i64 (t).ev, .int .i64 (t).ct, .int .i64 (t).ba, .int .i64 (t).mo, .int .i64 (t).pen, .int .i64 (t).fe, .string (t).cal, .string (t).cur] 23)).alloc (.cells #[.string c.nm, .slice wa c.wk.length wc, .slice ha c.hol.length hc] 26)).alloc (.cells #[.int .i64 0, .int .i64 0, .int .i64 0, .int .i64 0, .int .i64 0, .int .i64 0, .int .i64 0, .int .i64 0, .int .i64 0, .int .i64 0, .int .i64 0, .int .i64 0, .int .i64 0, .int .i64 0, .int .i64 0, .int .i64 0, .int .i64 0, .int .i64 0, .int .i64 0, .int .i64 0, .int .i64 0, .string { data := #[] }, .string { data := #[] }, .slice none 0 0, .slice none 0 0] 31)) (w.heap.size + 2) #[.string c.nm, .slice wa c.wk.length wc, .slice ha c.hol.length hc] 26 := Bk.Blk.nw42
  have kz : Bk.Blk ((((w.alloc (.cells #[.int .i64 (l).id, .int .i64 (l).ac, .int .i64 (l).st, .int .i64 (l).pp, .int .i64 (l).pi, .int .i64 (l).fee, .int .i64 (l).pen, .int .i64 (l).chg, .int .i64 (l).prov, .int .i64 (l).loss, .int .i64 (l).rcv, .int .i64 ((l).tm).me, .int .i64 ((l).tm).pr, .int .i64 ((l).tm).ppm, .int .i64 ((l).tm).stt, .int .i64 ((l).tm).ev, .int .i64 ((l).tm).ct, .int .i64 ((l).tm).ba, .int .i64 ((l).tm).mo, .int .i64 ((l).tm).pen, .int .i64 ((l).tm).fe, .string ((l).tm).cal, .string ((l).tm).cur, .slice da (l).ds.length dk, .slice ca (l).cs.length ck] 31)).alloc (.cells #[.int .i64 (t).me, .int .i64 (t).pr, .int .i64 (t).ppm, .int .i64 (t).stt, .int .i64 (t).ev, .int .i64 (t).ct, .int .i64 (t).ba, .int .i64 (t).mo, .int .i64 (t).pen, .int .i64 (t).fe, .string (t).cal, .string (t).cur] 23)).alloc (.cells #[.string c.nm, .slice wa c.wk.length wc, .slice ha c.hol.length hc] 26)).alloc (.cells #[.int .i64 0, .int .i64 0, .int .i64 0, .int .i64 0, .int .i64 0, .int .i64 0, .int .i64 0, .int .i64 0, .int .i64 0, .int .i64 0, .int .i64 0, .int .i64 0, .int .i64 0, .int .i64 0, .int .i64 0, .int .i64 0, .int .i64 0, .int .i64 0, .int .i64 0, .int .i64 0, .int .i64 0, .string { data := #[] }, .string { data := #[] }, .slice none 0 0, .slice none 0 0] 31)) (w.heap.size + 3) #[.int .i64 0, .int .i64 0, .int .i64 0, .int .i64 0, .int .i64 0, .int .i64 0, .int .i64 0, .int .i64 0, .int .i64 0, .int .i64 0, .int .i64 0, .int .i64 0, .int .i64 0, .int .i64 0, .int .i64 0, .int .i64 0, .int .i64 0, .int .i64 0, .int .i64 0, .int .i64 0, .int .i64 0, .string { data := #[] }, .string { data := #[] }, .slice none 0 0, .slice none 0 0] 31 := Bk.Blk.nw43
  have hi := hcal.later cw
  have hS := hs.of cw
  have hd := h.later cw
  have hr := h'.later cw
  have hws : w.heap.size + 4 ≤ ((((w.alloc (.cells #[.int .i64 (l).id, .int .i64 (l).ac, .int .i64 (l).st, .int .i64 (l).pp, .int .i64 (l).pi, .int .i64 (l).fee, .int .i64 (l).pen, .int .i64 (l).chg, .int .i64 (l).prov, .int .i64 (l).loss, .int .i64 (l).rcv, .int .i64 ((l).tm).me, .int .i64 ((l).tm).pr, .int .i64 ((l).tm).ppm, .int .i64 ((l).tm).stt, .int .i64 ((l).tm).ev, .int .i64 ((l).tm).ct, .int .i64 ((l).tm).ba, .int .i64 ((l).tm).mo, .int .i64 ((l).tm).pen, .int .i64 ((l).tm).fe, .string ((l).tm).cal, .string ((l).tm).cur, .slice da (l).ds.length dk, .slice ca (l).cs.length ck] 31)).alloc (.cells #[.int .i64 (t).me, .int .i64 (t).pr, .int .i64 (t).ppm, .int .i64 (t).stt, .int .i64 (t).ev, .int .i64 (t).ct, .int .i64 (t).ba, .int .i64 (t).mo, .int .i64 (t).pen, .int .i64 (t).fe, .string (t).cal, .string (t).cur] 23)).alloc (.cells #[.string c.nm, .slice wa c.wk.length wc, .slice ha c.hol.length hc] 26)).alloc (.cells #[.int .i64 0, .int .i64 0, .int .i64 0, .int .i64 0, .int .i64 0, .int .i64 0, .int .i64 0, .int .i64 0, .int .i64 0, .int .i64 0, .int .i64 0, .int .i64 0, .int .i64 0, .int .i64 0, .int .i64 0, .int .i64 0, .int .i64 0, .int .i64 0, .int .i64 0, .int .i64 0, .int .i64 0, .string { data := #[] }, .string { data := #[] }, .slice none 0 0, .slice none 0 0] 31)).heap.size := by simp
  clear h h' hs hcal
  go_enter Tryz.func49, Tryz.ntmps49
  go_upto_region 1 with (refine wpList_load_row rfl 31 _ rfl _ rfl _ _ _ _ (Bk.Blk.nw10) Tryz.underlying31 rfl (by kernel_rfl) ?_)
  generalize ((((w.alloc (.cells #[.int .i64 (l).id, .int .i64 (l).ac, .int .i64 (l).st, .int .i64 (l).pp, .int .i64 (l).pi, .int .i64 (l).fee, .int .i64 (l).pen, .int .i64 (l).chg, .int .i64 (l).prov, .int .i64 (l).loss, .int .i64 (l).rcv, .int .i64 ((l).tm).me, .int .i64 ((l).tm).pr, .int .i64 ((l).tm).ppm, .int .i64 ((l).tm).stt, .int .i64 ((l).tm).ev, .int .i64 ((l).tm).ct, .int .i64 ((l).tm).ba, .int .i64 ((l).tm).mo, .int .i64 ((l).tm).pen, .int .i64 ((l).tm).fe, .string ((l).tm).cal, .string ((l).tm).cur, .slice da (l).ds.length dk, .slice ca (l).cs.length ck] 31)).alloc (.cells #[.int .i64 (t).me, .int .i64 (t).pr, .int .i64 (t).ppm, .int .i64 (t).stt, .int .i64 (t).ev, .int .i64 (t).ct, .int .i64 (t).ba, .int .i64 (t).mo, .int .i64 (t).pen, .int .i64 (t).fe, .string (t).cal, .string (t).cur] 23)).alloc (.cells #[.string c.nm, .slice wa c.wk.length wc, .slice ha c.hol.length hc] 26)).alloc (.cells #[.int .i64 0, .int .i64 0, .int .i64 0, .int .i64 0, .int .i64 0, .int .i64 0, .int .i64 0, .int .i64 0, .int .i64 0, .int .i64 0, .int .i64 0, .int .i64 0, .int .i64 0, .int .i64 0, .int .i64 0, .int .i64 0, .int .i64 0, .int .i64 0, .int .i64 0, .int .i64 0, .int .i64 0, .string { data := #[] }, .string { data := #[] }, .slice none 0 0, .slice none 0 0] 31)) = w1 at *
  have cw1 := cw
  clear cw
  have l0 := kt.c0
  have l1 := kt.c1
  have l2 := kt.c2
  have l3 := kt.c3
  have l4 := kt.c4
  have l5 := kt.c5
  have l6 := kt.c6
  have l7 := kt.c7
  have l8 := kt.c8
  have l9 := kt.c9
  have l10 := kt.c10
  have l11 := kt.c11
  have m0 := kc.c0
  have m1 := kc.c1
  have m2 := kc.c2
  go_wp2_with fail
  clear l0 l1 l2 l3 l4 l5 l6 l7 l8 l9 l10 l11 m0 m1 m2
  refine (skchk_any t c wa ha wc hc _ hi hcu).mono ?_
  rintro e w2 ⟨rfl, hb⟩
  replace k0 := k0.later hb
  replace kt := kt.later hb
  replace kc := kc.later hb
  replace kz := kz.later hb
  replace hi := hi.later hb
  replace hS := hS.of hb
  replace hd := hd.later hb
  replace hr := hr.later hb
  have cw2 := bl2 hb cw1
  clear hb cw1
  by_cases he1 : skE t c ≠ 0
  · have HF := Lib.hid (chE_1 (l := l) (day := day) he1)
    have HN := Lib.hid he1
    have g1 : (skE t c != 0) = true := by simpa using he1
    clear he1
    generalize skE t c = E at HF HN g1 ⊢
    go_wp2_with (refine wpList_store_row rfl 31 _ _ rfl _ _ rfl rfl _ _ kz (by kernel_rfl) rfl (by simp [Value.oneCell']) ?_)
    (try simp only [Exit.inBlock, Exit.then])
    refine bodyPost_ret (results2_cell Tryz.results49 _ _ _ _ _ _ _ rfl (Blk_setRow_same kz) Tryz.underlying31 rfl (by kernel_rfl)) rfl ?_
    exact chOut_no HF.out HN.out (Below_setRow cw2 (by omega) _)
  · have g1 : (skE t c != 0) = false := by simpa using he1
    have H1 := Lib.hid he1
    clear he1
    generalize skE t c = E at g1 ⊢
    go_wp2_with (refine wpList_load_row rfl 31 _ rfl _ rfl _ _ _ _ (k0) Tryz.underlying31 rfl (by kernel_rfl) ?_)
    refine (cap_any l da ca dk ck day _ hd hk hn).mono ?_
    rintro e w3 ⟨rfl, hb⟩
    replace k0 := k0.later hb
    replace kt := kt.later hb
    replace kc := kc.later hb
    replace kz := kz.later hb
    replace hi := hi.later hb
    replace hS := hS.of hb
    replace hd := hd.later hb
    replace hr := hr.later hb
    have cw3 := bl2 hb cw2
    clear hb cw2
    by_cases he2 : capE l day ≠ 0
    · have HF := Lib.hid (chE_2 (t := t) (c := c) H1.out he2)
      have HN := Lib.hid he2
      have g2 : (capE l day != 0) = true := by simpa using he2
      clear he2
      generalize capE l day = E2 at HF HN g2 ⊢
      go_wp2_with (refine wpList_store_row rfl 31 _ _ rfl _ _ rfl rfl _ _ kz (by kernel_rfl) rfl (by simp [Value.oneCell']) ?_)
      (try simp only [Exit.inBlock, Exit.then])
      refine bodyPost_ret (results2_cell Tryz.results49 _ _ _ _ _ _ _ rfl (Blk_setRow_same kz) Tryz.underlying31 rfl (by kernel_rfl)) rfl ?_
      exact chOut_no HF.out HN.out (Below_setRow cw3 (by omega) _)
    · have g2 : (capE l day != 0) = false := by simpa using he2
      rw [show capV l day = capN l day from if_pos (Classical.byContradiction he2)]
      have H2 := Lib.hid he2
      clear he2
      generalize capE l day = E2 at g2 ⊢
      obtain ⟨N, hN⟩ : ∃ N, N = capN l day := ⟨_, rfl⟩
      rw [← hN]
      have HN := Lib.hid hN
      clear hN
      have l0 := kt.c0
      have l1 := kt.c1
      have l2 := kt.c2
      have l3 := kt.c3
      have l4 := kt.c4
      have l5 := kt.c5
      have l6 := kt.c6
      have l7 := kt.c7
      have l8 := kt.c8
      have l9 := kt.c9
      have l10 := kt.c10
      have l11 := kt.c11
      have m0 := kc.c0
      have m1 := kc.c1
      have m2 := kc.c2
      have l22 := k0.c22
      have l24 := k0.c24
      by_cases b1 : t.stt = day
      · have s1 : (t.stt != day) = false := by simp [b1]
        by_cases b2 : t.pr = N
        · have s2 : (t.pr != N) = false := by simp [b2]
          by_cases b3 : t.cur = l.tm.cur
          · have s3 : (t.cur.toList == l.tm.cur.toList) = true := by rw [b3]; exact beq_self_eq_true _
            by_cases h0 : 0 < l.cs.length
            · obtain ⟨b, off, rfl, hcc⟩ := hr.mid cenc_len h0
              have c0 := day_range (hcc (l.cs.length - 1) (by omega))
              have hw2 : wrap64 ((l.cs.length : Int) - 1) = ((l.cs.length - 1 : Nat) : Int) := by unfold wrap64; omega
              by_cases h4 : day < l.cs[l.cs.length - 1]!.day
              · have HB := Lib.hid (bad_4 (t := t) h0 h4)
                generalize l.cs[l.cs.length - 1]!.day = pd at *
                clear hcc
                have HF := Lib.hid (chE_3 (c := c) H1.out H2.out (HB.out))
                go_wp2_with (refine wpList_store_row rfl 31 _ _ rfl _ _ rfl rfl _ _ kz (by kernel_rfl) rfl (by simp [Value.oneCell']) ?_)
                (try simp only [Exit.inBlock, Exit.then])
                refine bodyPost_ret (results2_cell Tryz.results49 _ _ _ _ _ _ _ rfl (Blk_setRow_same kz) Tryz.underlying31 rfl (by kernel_rfl)) rfl ?_
                exact chOut_no HF.out (by decide) (Below_setRow cw3 (by omega) _)
              · have HB := Lib.hid (bad_0 (l := l) b1 (b2.trans HN.out) b3 (fun _ => h4))
                generalize l.cs[l.cs.length - 1]!.day = pd at *
                clear b1 b2 b3
                by_cases h5 : 64 ≤ l.cs.length
                · have HF := Lib.hid (chE_4 (c := c) H1.out H2.out HB.out h5)
                  go_wp2_with (refine wpList_store_row rfl 31 _ _ rfl _ _ rfl rfl _ _ kz (by kernel_rfl) rfl (by simp [Value.oneCell']) ?_)
                  (try simp only [Exit.inBlock, Exit.then])
                  refine bodyPost_ret (results2_cell Tryz.results49 _ _ _ _ _ _ _ rfl (Blk_setRow_same kz) Tryz.underlying31 rfl (by kernel_rfl)) rfl ?_
                  exact chOut_no HF.out (by decide) (Below_setRow cw3 (by omega) _)
                · have HF5 := Lib.hid (chE_5 (c := c) H1.out H2.out HB.out h5)
                  go_wp2_with fail
                  clear l0 l1 l2 l3 l4 l5 l6 l7 l8 l9 l10 l11 m0 m1 m2
                  clear l22 l24
                  clear c0
                  have hz3 := kz.lt
                  refine (Kl.build_any t c wa ha wc hc _ hi hcu hS).mono ?_
                  rintro e w4 ⟨da2, dk2, rfl, hd2, hf2, hb⟩
                  replace k0 := k0.later hb
                  replace kt := kt.later hb
                  replace kc := kc.later hb
                  replace kz := kz.later hb
                  replace hi := hi.later hb
                  replace hS := hS.of hb
                  replace hd := hd.later hb
                  replace hr := hr.later hb
                  have cw4 := bl2 hb cw3
                  clear hb cw3
                  by_cases he3 : blE t c ≠ 0
                  · have HF := Lib.hid HF5.out
                    have HN3 := Lib.hid he3
                    have g3 : (blE t c != 0) = true := by simpa using he3
                    clear he3 hd2 hf2
                    generalize blE t c = E3 at HF HN3 g3 ⊢
                    go_wp2_with (refine wpList_store_row rfl 31 _ _ rfl _ _ rfl rfl _ _ kz (by kernel_rfl) rfl (by simp [Value.oneCell']) ?_)
                    (try simp only [Exit.inBlock, Exit.then])
                    refine bodyPost_ret (results2_cell Tryz.results49 _ _ _ _ _ _ _ rfl (Blk_setRow_same kz) Tryz.underlying31 rfl (by kernel_rfl)) rfl ?_
                    exact chOut_no HF.out HN3.out (Below_setRow cw4 (by omega) _)
                  · have g3 : (blE t c != 0) = false := by simpa using he3
                    have he30 : blE t c = 0 := Classical.byContradiction he3
                    have HE3 := Lib.hid (show chE l t day c = 0 from HF5.out.trans he30)
                    clear he3 he30 HF5
                    generalize blE t c = E3 at g3 ⊢
                    obtain ⟨ls, hls⟩ : ∃ ls, ls = blV t c := ⟨_, rfl⟩
                    rw [← hls] at hd2 ⊢
                    have HLS := Lib.hid hls
                    clear hls
                    obtain ⟨ti, hi1, hi2, hi3, hi4⟩ := info_parts chg_info
                    have HI := Lib.hid (And.intro hi1 (And.intro hi2 hi3))
                    clear hi1 hi2 hi3
                    clear hcc hw2
                    go_upto_region 15 with fail
                    go_cut [11, 13, 14, 15] from 10 to 86 (fun s11 s13 s14 s15 wx => s11 = .int .i64 N ∧ s13 = .int .i64 l.cs.length ∧ s14 = .slice da2 ls.length dk2 ∧ s15 = .slice (some ⟨w4.heap.size, 0, none⟩) l.cs.length (l.cs.length + 1) ∧ wx = (w4.alloc (.cells (madeCells (Value.cells (.agg #[.int .i64 0, .int .i64 0, .int .i64 0, .int .i64 0, .int .i64 0, .int .i64 0, .int .i64 0, .int .i64 0, .int .i64 0, .int .i64 0, .int .i64 0, .int .i64 0, .string .empty, .string .empty])) ((l.cs.length + 1) * 14)) 75)))
                    case first =>
                      go_wp2_with (at_make; go_loud (refine wpList_make_n _ rfl _ _ _ rfl 75 ti _ 14 Tryz.underlying29 HI.out.1 HI.out.2.1 HI.out.2.2 .i64 .i64 _ l.cs.length (l.cs.length + 1) rfl rfl (by first | rfl | omega | (simp; done)) (by omega) (by rw [hi4]; omega) (by unfold maxLen; omega) ?_))
                      go_meet
                      exact ⟨rfl, rfl, rfl, rfl, rfl⟩
                    case rest =>
                      obtain ⟨rfl, rfl, rfl, rfl, rfl⟩ := hcut
                      have hb5 : Below w4.heap.size w4 (w4.alloc (.cells (madeCells (Value.cells (.agg #[.int .i64 0, .int .i64 0, .int .i64 0, .int .i64 0, .int .i64 0, .int .i64 0, .int .i64 0, .int .i64 0, .int .i64 0, .int .i64 0, .int .i64 0, .int .i64 0, .string .empty, .string .empty])) ((l.cs.length + 1) * 14)) 75)) := (Below.refl _ _).alloc (Nat.le_refl _) _
                      have k5 : Bk.Blk (w4.alloc (.cells (madeCells (Value.cells (.agg #[.int .i64 0, .int .i64 0, .int .i64 0, .int .i64 0, .int .i64 0, .int .i64 0, .int .i64 0, .int .i64 0, .int .i64 0, .int .i64 0, .int .i64 0, .int .i64 0, .string .empty, .string .empty])) ((l.cs.length + 1) * 14)) 75)) w4.heap.size (madeCells (Value.cells (.agg #[.int .i64 0, .int .i64 0, .int .i64 0, .int .i64 0, .int .i64 0, .int .i64 0, .int .i64 0, .int .i64 0, .int .i64 0, .int .i64 0, .int .i64 0, .int .i64 0, .string .empty, .string .empty])) ((l.cs.length + 1) * 14)) 75 := Bk.Blk.nw10
                      have hg4 : w.heap.size + 4 ≤ w4.heap.size := by have := cw4.size; have := kz.lt; omega
                      replace k0 := k0.later hb5
                      replace kt := kt.later hb5
                      replace kz := kz.later hb5
                      replace hr := hr.later hb5
                      have cw5 := bl2 hb5 cw4
                      have hcs5 := size_madeCells (Value.cells (.agg #[.int .i64 0, .int .i64 0, .int .i64 0, .int .i64 0, .int .i64 0, .int .i64 0, .int .i64 0, .int .i64 0, .int .i64 0, .int .i64 0, .int .i64 0, .int .i64 0, .string .empty, .string .empty])) ((l.cs.length + 1) * 14)
                      have h5s : w4.heap.size < (w4.alloc (.cells (madeCells (Value.cells (.agg #[.int .i64 0, .int .i64 0, .int .i64 0, .int .i64 0, .int .i64 0, .int .i64 0, .int .i64 0, .int .i64 0, .int .i64 0, .int .i64 0, .int .i64 0, .int .i64 0, .string .empty, .string .empty])) ((l.cs.length + 1) * 14)) 75)).heap.size := by simp
                      have HDL := Lib.hid (fun W (hW : Below w4.heap.size w4 W) => hd2.later hW)
                      clear hi hS kc cw4 HI hi4 hd2 hd
                      generalize madeCells (Value.cells (.agg #[.int .i64 0, .int .i64 0, .int .i64 0, .int .i64 0, .int .i64 0, .int .i64 0, .int .i64 0, .int .i64 0, .int .i64 0, .int .i64 0, .int .i64 0, .int .i64 0, .string .empty, .string .empty])) ((l.cs.length + 1) * 14) = cur at *
                      generalize w4.alloc (.cells cur 75) = w5 at *
                      generalize w4.heap.size = g5 at *
                      have hms := maxlen_le (n := l.cs.length) (by omega)
                      have HSRC := Lib.hid (show ∀ j v, (flat cenc l.cs)[j]? = some v → w5.cell? ((⟨b, off, none⟩ : Addr).add j) = some v from fun j v hj => by
                        obtain ⟨b', off', ha, hc⟩ := hr h0
                        obtain ⟨rfl, rfl⟩ : b = b' ∧ off = off' := by simpa using ha
                        rw [Go.WideShapes.add_plain]
                        exact hc j v hj)
                      have hfl := flat_len cenc_len l.cs
                      obtain ⟨w6, hw6⟩ : ∃ W, W = w5.setRow g5 ((flat cenc l.cs) ++ cur.toList.drop (flat cenc l.cs).length).toArray := ⟨_, rfl⟩
                      have hb6 : Below g5 w4 w6 := by rw [hw6]; exact Below_setRow hb5 (Nat.le_refl _) _
                      have cw6 : Below w.heap.size w w6 := by rw [hw6]; exact Below_setRow cw5 (by omega) _
                      have k06 : Bk.Blk w6 w.heap.size #[.int .i64 (l).id, .int .i64 (l).ac, .int .i64 (l).st, .int .i64 (l).pp, .int .i64 (l).pi, .int .i64 (l).fee, .int .i64 (l).pen, .int .i64 (l).chg, .int .i64 (l).prov, .int .i64 (l).loss, .int .i64 (l).rcv, .int .i64 ((l).tm).me, .int .i64 ((l).tm).pr, .int .i64 ((l).tm).ppm, .int .i64 ((l).tm).stt, .int .i64 ((l).tm).ev, .int .i64 ((l).tm).ct, .int .i64 ((l).tm).ba, .int .i64 ((l).tm).mo, .int .i64 ((l).tm).pen, .int .i64 ((l).tm).fe, .string ((l).tm).cal, .string ((l).tm).cur, .slice da (l).ds.length dk, .slice (some ⟨b, off, none⟩) (l).cs.length ck] 31 := by rw [hw6]; exact Blk_setRow_ne k0 (by omega)
                      have kt6 : Bk.Blk w6 (w.heap.size + 1) #[.int .i64 (t).me, .int .i64 (t).pr, .int .i64 (t).ppm, .int .i64 (t).stt, .int .i64 (t).ev, .int .i64 (t).ct, .int .i64 (t).ba, .int .i64 (t).mo, .int .i64 (t).pen, .int .i64 (t).fe, .string (t).cal, .string (t).cur] 23 := by rw [hw6]; exact Blk_setRow_ne kt (by omega)
                      have kz6 : Bk.Blk w6 (w.heap.size + 3) #[.int .i64 0, .int .i64 0, .int .i64 0, .int .i64 0, .int .i64 0, .int .i64 0, .int .i64 0, .int .i64 0, .int .i64 0, .int .i64 0, .int .i64 0, .int .i64 0, .int .i64 0, .int .i64 0, .int .i64 0, .int .i64 0, .int .i64 0, .int .i64 0, .int .i64 0, .int .i64 0, .int .i64 0, .string { data := #[] }, .string { data := #[] }, .slice none 0 0, .slice none 0 0] 31 := by rw [hw6]; exact Blk_setRow_ne kz (by omega)
                      have ho6 : OwnR cenc 14 75 w6 w.heap.size g5 (l.cs.length + 1) l.cs := ⟨by omega, hms, cur.toList.drop (flat cenc l.cs).length, by rw [List.length_drop, Array.length_toList, hcs5, hfl]; omega, by rw [hw6]; exact Blk_setRow_same k5⟩
                      have h6s : g5 < w6.heap.size := by rw [hw6]; simpa using h5s
                      clear h5s
                      have HW6 := Lib.hid hw6
                      have l24 := k0.c24
                      have hfit : (flat cenc l.cs).length ≤ cur.size := by rw [hfl, hcs5]; omega
                      clear hw6 k0 kt kz hr hb5 cw5
                      go_upto_region 17 with (refine wpList_copy_k rfl _ _ 29 29 rfl 75 14 Tryz.underlying29 (by kernel_rfl) g5 l.cs.length (l.cs.length + 1) ⟨b, off, none⟩ ck rfl rfl cur 75 k5 (flat cenc l.cs) hfl HSRC.out hfit (flat_mem cenc_one l.cs) ?_; rw [← HW6.out])
                      clear l24 k5 HSRC HW6 hfit hfl hcs5
                      have hv6 := Sr.OwnR.gv cenc_len (by decide) ho6
                      clear ho6
                      have HTM := Lib.hid (tm_range k06)
                      have hs6 : w.heap.size ≤ w6.heap.size := by have := k06.lt; omega
                      have hg6 := h6s
                      clear h6s
                      go_upto_region 18 with (first | (refine wpList_load_mid rfl 23 _ rfl w.heap.size 11 (by first | rfl | simp) [.int .i64 (l.tm).me, .int .i64 (l.tm).pr, .int .i64 (l.tm).ppm, .int .i64 (l.tm).stt, .int .i64 (l.tm).ev, .int .i64 (l.tm).ct, .int .i64 (l.tm).ba, .int .i64 (l.tm).mo, .int .i64 (l.tm).pen, .int .i64 (l.tm).fe, .string (l.tm).cal, .string (l.tm).cur] _ HTM.out Tryz.underlying23 rfl (by kernel_rfl) ?_) | (at_builtin; go_loud (refine Sr.app_gv cenc_len cenc_one (by decide) (by decide) rfl chg_info Tryz.underlying29 ⟨day, N, l.tm⟩ rfl _ _ rfl rfl hv6 rfl (by omega) hs6 ?_; intro v7 w7 hv7 hgr hat; obtain ⟨a7, c7, rfl, hr7, _⟩ := hv7.row; have k07 := Sr.grown_blk k06 hgr (own_ne (by omega)); have kt7 := Sr.grown_blk kt6 hgr (own_ne (by omega)); have kz7 := Sr.grown_blk kz6 hgr (own_ne (by omega)); have cw7 := Sr.grown_below cw6 hv6 hgr; have c24 := k07.c24; have f24 := k07.f24; have hb7 : Below g5 w4 w7 := (hb6.alloc (Nat.le_of_lt hg6) _).grown hgr (by simp; omega) (fun j hj => Nat.le_of_eq (Option.some.inj hj)))))
                      have ha7 : ∀ ad, a7 = some ad → g5 ≤ ad.block := fun ad had => by
                        subst had
                        rcases hat with h | h
                        · exact Nat.le_of_eq (Option.some.inj h).symm
                        · have := Option.some.inj h; omega
                      have hd7 := HDL.out _ hb7
                      clear hb7 hat hgr k06 kt6 kz6 cw6 hb6 HTM hv6 hs6 c24 f24 hv7 HDL
                      have k08 : Bk.Blk (w7.setCell ⟨w.heap.size, 24, none⟩ (.slice a7 (l.cs.length + 1) c7)) w.heap.size #[.int .i64 l.id, .int .i64 l.ac, .int .i64 l.st, .int .i64 l.pp, .int .i64 l.pi, .int .i64 l.fee, .int .i64 l.pen, .int .i64 l.chg, .int .i64 l.prov, .int .i64 l.loss, .int .i64 l.rcv, .int .i64 l.tm.me, .int .i64 l.tm.pr, .int .i64 l.tm.ppm, .int .i64 l.tm.stt, .int .i64 l.tm.ev, .int .i64 l.tm.ct, .int .i64 l.tm.ba, .int .i64 l.tm.mo, .int .i64 l.tm.pen, .int .i64 l.tm.fe, .string l.tm.cal, .string l.tm.cur, .slice da l.ds.length dk, .slice a7 (l.cs.length + 1) c7] 31 := (k07.set_same (i := 24) (u := .slice a7 (l.cs.length + 1) c7)).conv rfl
                      clear k07
                      have kt8 : Bk.Blk (w7.setCell ⟨w.heap.size, 24, none⟩ (.slice a7 (l.cs.length + 1) c7)) (w.heap.size + 1) #[.int .i64 (t).me, .int .i64 (t).pr, .int .i64 (t).ppm, .int .i64 (t).stt, .int .i64 (t).ev, .int .i64 (t).ct, .int .i64 (t).ba, .int .i64 (t).mo, .int .i64 (t).pen, .int .i64 (t).fe, .string (t).cal, .string (t).cur] 23 := kt7.set_ne (by omega)
                      have kz8 : Bk.Blk (w7.setCell ⟨w.heap.size, 24, none⟩ (.slice a7 (l.cs.length + 1) c7)) (w.heap.size + 3) #[.int .i64 0, .int .i64 0, .int .i64 0, .int .i64 0, .int .i64 0, .int .i64 0, .int .i64 0, .int .i64 0, .int .i64 0, .int .i64 0, .int .i64 0, .int .i64 0, .int .i64 0, .int .i64 0, .int .i64 0, .int .i64 0, .int .i64 0, .int .i64 0, .int .i64 0, .int .i64 0, .int .i64 0, .string { data := #[] }, .string { data := #[] }, .slice none 0 0, .slice none 0 0] 31 := kz7.set_ne (by omega)
                      have cw8 : Below w.heap.size w (w7.setCell ⟨w.heap.size, 24, none⟩ (.slice a7 (l.cs.length + 1) c7)) := cw7.setCell (Nat.le_refl _) _
                      clear kt7 kz7 cw7
                      have hd8 : DuesIn (w7.setCell ⟨w.heap.size, 24, none⟩ (.slice a7 (l.cs.length + 1) c7)) da2 ls := dues_of_row hd7.1 (row_put hd7.row (fun ad had => by have := hf2 ad had; show ad.block ≠ w.heap.size; omega))
                      have hr8 : RowIn cenc (w7.setCell ⟨w.heap.size, 24, none⟩ (.slice a7 (l.cs.length + 1) c7)) a7 (l.cs ++ [(⟨day, N, l.tm⟩ : Ch)]) := row_put hr7 (fun ad had => by have := ha7 ad had; show ad.block ≠ w.heap.size; omega)
                      clear hd7 hr7
                      generalize (w7.setCell ⟨w.heap.size, 24, none⟩ (.slice a7 (l.cs.length + 1) c7)) = w8 at *
                      have k09 : Bk.Blk (w8.setRow w.heap.size #[.int .i64 l.id, .int .i64 l.ac, .int .i64 l.st, .int .i64 l.pp, .int .i64 l.pi, .int .i64 l.fee, .int .i64 l.pen, .int .i64 l.chg, .int .i64 l.prov, .int .i64 l.loss, .int .i64 l.rcv, .int .i64 t.me, .int .i64 t.pr, .int .i64 t.ppm, .int .i64 t.stt, .int .i64 t.ev, .int .i64 t.ct, .int .i64 t.ba, .int .i64 t.mo, .int .i64 t.pen, .int .i64 t.fe, .string t.cal, .string t.cur, .slice da l.ds.length dk, .slice a7 (l.cs.length + 1) c7]) w.heap.size #[.int .i64 l.id, .int .i64 l.ac, .int .i64 l.st, .int .i64 l.pp, .int .i64 l.pi, .int .i64 l.fee, .int .i64 l.pen, .int .i64 l.chg, .int .i64 l.prov, .int .i64 l.loss, .int .i64 l.rcv, .int .i64 t.me, .int .i64 t.pr, .int .i64 t.ppm, .int .i64 t.stt, .int .i64 t.ev, .int .i64 t.ct, .int .i64 t.ba, .int .i64 t.mo, .int .i64 t.pen, .int .i64 t.fe, .string t.cal, .string t.cur, .slice da l.ds.length dk, .slice a7 (l.cs.length + 1) c7] 31 := Blk_setRow_same k08
                      have kt9 : Bk.Blk (w8.setRow w.heap.size #[.int .i64 l.id, .int .i64 l.ac, .int .i64 l.st, .int .i64 l.pp, .int .i64 l.pi, .int .i64 l.fee, .int .i64 l.pen, .int .i64 l.chg, .int .i64 l.prov, .int .i64 l.loss, .int .i64 l.rcv, .int .i64 t.me, .int .i64 t.pr, .int .i64 t.ppm, .int .i64 t.stt, .int .i64 t.ev, .int .i64 t.ct, .int .i64 t.ba, .int .i64 t.mo, .int .i64 t.pen, .int .i64 t.fe, .string t.cal, .string t.cur, .slice da l.ds.length dk, .slice a7 (l.cs.length + 1) c7]) (w.heap.size + 1) #[.int .i64 (t).me, .int .i64 (t).pr, .int .i64 (t).ppm, .int .i64 (t).stt, .int .i64 (t).ev, .int .i64 (t).ct, .int .i64 (t).ba, .int .i64 (t).mo, .int .i64 (t).pen, .int .i64 (t).fe, .string (t).cal, .string (t).cur] 23 := Blk_setRow_ne kt8 (by omega)
                      have kz9 : Bk.Blk (w8.setRow w.heap.size #[.int .i64 l.id, .int .i64 l.ac, .int .i64 l.st, .int .i64 l.pp, .int .i64 l.pi, .int .i64 l.fee, .int .i64 l.pen, .int .i64 l.chg, .int .i64 l.prov, .int .i64 l.loss, .int .i64 l.rcv, .int .i64 t.me, .int .i64 t.pr, .int .i64 t.ppm, .int .i64 t.stt, .int .i64 t.ev, .int .i64 t.ct, .int .i64 t.ba, .int .i64 t.mo, .int .i64 t.pen, .int .i64 t.fe, .string t.cal, .string t.cur, .slice da l.ds.length dk, .slice a7 (l.cs.length + 1) c7]) (w.heap.size + 3) #[.int .i64 0, .int .i64 0, .int .i64 0, .int .i64 0, .int .i64 0, .int .i64 0, .int .i64 0, .int .i64 0, .int .i64 0, .int .i64 0, .int .i64 0, .int .i64 0, .int .i64 0, .int .i64 0, .int .i64 0, .int .i64 0, .int .i64 0, .int .i64 0, .int .i64 0, .int .i64 0, .int .i64 0, .string { data := #[] }, .string { data := #[] }, .slice none 0 0, .slice none 0 0] 31 := Blk_setRow_ne kz8 (by omega)
                      have cw9 : Below w.heap.size w (w8.setRow w.heap.size #[.int .i64 l.id, .int .i64 l.ac, .int .i64 l.st, .int .i64 l.pp, .int .i64 l.pi, .int .i64 l.fee, .int .i64 l.pen, .int .i64 l.chg, .int .i64 l.prov, .int .i64 l.loss, .int .i64 l.rcv, .int .i64 t.me, .int .i64 t.pr, .int .i64 t.ppm, .int .i64 t.stt, .int .i64 t.ev, .int .i64 t.ct, .int .i64 t.ba, .int .i64 t.mo, .int .i64 t.pen, .int .i64 t.fe, .string t.cal, .string t.cur, .slice da l.ds.length dk, .slice a7 (l.cs.length + 1) c7]) := Below_setRow cw8 (Nat.le_refl _) _
                      have hd9 : DuesIn (w8.setRow w.heap.size #[.int .i64 l.id, .int .i64 l.ac, .int .i64 l.st, .int .i64 l.pp, .int .i64 l.pi, .int .i64 l.fee, .int .i64 l.pen, .int .i64 l.chg, .int .i64 l.prov, .int .i64 l.loss, .int .i64 l.rcv, .int .i64 t.me, .int .i64 t.pr, .int .i64 t.ppm, .int .i64 t.stt, .int .i64 t.ev, .int .i64 t.ct, .int .i64 t.ba, .int .i64 t.mo, .int .i64 t.pen, .int .i64 t.fe, .string t.cal, .string t.cur, .slice da l.ds.length dk, .slice a7 (l.cs.length + 1) c7]) da2 ls := dues_setRow hd8 (fun ad had => by have := hf2 ad had; omega)
                      have hr9 : RowIn cenc (w8.setRow w.heap.size #[.int .i64 l.id, .int .i64 l.ac, .int .i64 l.st, .int .i64 l.pp, .int .i64 l.pi, .int .i64 l.fee, .int .i64 l.pen, .int .i64 l.chg, .int .i64 l.prov, .int .i64 l.loss, .int .i64 l.rcv, .int .i64 t.me, .int .i64 t.pr, .int .i64 t.ppm, .int .i64 t.stt, .int .i64 t.ev, .int .i64 t.ct, .int .i64 t.ba, .int .i64 t.mo, .int .i64 t.pen, .int .i64 t.fe, .string t.cal, .string t.cur, .slice da l.ds.length dk, .slice a7 (l.cs.length + 1) c7]) a7 (l.cs ++ [(⟨day, N, l.tm⟩ : Ch)]) := row_row hr8 (fun ad had => by have := ha7 ad had; omega)
                      clear hd8 hr8 cw8
                      have c23 := k09.c23
                      have f23 := k09.f23
                      go_upto_region 19 with (first | (refine wpList_load_row rfl 23 _ rfl _ rfl _ _ _ _ kt8 Tryz.underlying23 rfl (by kernel_rfl) ?_) | (refine wpList_store_in rfl 23 _ _ rfl w.heap.size 11 #[.int .i64 (t).me, .int .i64 (t).pr, .int .i64 (t).ppm, .int .i64 (t).stt, .int .i64 (t).ev, .int .i64 (t).ct, .int .i64 (t).ba, .int .i64 (t).mo, .int .i64 (t).pen, .int .i64 (t).fe, .string (t).cal, .string (t).cur] (by first | rfl | simp) rfl 31 _ k08 (by kernel_rfl) (show 11 + 12 ≤ 25 by decide) (by simp [Value.oneCell']) #[.int .i64 l.id, .int .i64 l.ac, .int .i64 l.st, .int .i64 l.pp, .int .i64 l.pi, .int .i64 l.fee, .int .i64 l.pen, .int .i64 l.chg, .int .i64 l.prov, .int .i64 l.loss, .int .i64 l.rcv, .int .i64 t.me, .int .i64 t.pr, .int .i64 t.ppm, .int .i64 t.stt, .int .i64 t.ev, .int .i64 t.ct, .int .i64 t.ba, .int .i64 t.mo, .int .i64 t.pen, .int .i64 t.fe, .string t.cal, .string t.cur, .slice da l.ds.length dk, .slice a7 (l.cs.length + 1) c7] rfl ?_))
                      clear c23 f23
                      clear k08 kt8 kz8
                      generalize (w8.setRow w.heap.size #[.int .i64 l.id, .int .i64 l.ac, .int .i64 l.st, .int .i64 l.pp, .int .i64 l.pi, .int .i64 l.fee, .int .i64 l.pen, .int .i64 l.chg, .int .i64 l.prov, .int .i64 l.loss, .int .i64 l.rcv, .int .i64 t.me, .int .i64 t.pr, .int .i64 t.ppm, .int .i64 t.stt, .int .i64 t.ev, .int .i64 t.ct, .int .i64 t.ba, .int .i64 t.mo, .int .i64 t.pen, .int .i64 t.fe, .string t.cal, .string t.cur, .slice da l.ds.length dk, .slice a7 (l.cs.length + 1) c7]) = w9 at *
                      have k010 : Bk.Blk (w9.setCell ⟨w.heap.size, 23, none⟩ (.slice da2 ls.length dk2)) w.heap.size #[.int .i64 l.id, .int .i64 l.ac, .int .i64 l.st, .int .i64 l.pp, .int .i64 l.pi, .int .i64 l.fee, .int .i64 l.pen, .int .i64 l.chg, .int .i64 l.prov, .int .i64 l.loss, .int .i64 l.rcv, .int .i64 t.me, .int .i64 t.pr, .int .i64 t.ppm, .int .i64 t.stt, .int .i64 t.ev, .int .i64 t.ct, .int .i64 t.ba, .int .i64 t.mo, .int .i64 t.pen, .int .i64 t.fe, .string t.cal, .string t.cur, .slice da2 ls.length dk2, .slice a7 (l.cs.length + 1) c7] 31 := (k09.set_same (i := 23) (u := .slice da2 ls.length dk2)).conv rfl
                      clear k09
                      have kt10 : Bk.Blk (w9.setCell ⟨w.heap.size, 23, none⟩ (.slice da2 ls.length dk2)) (w.heap.size + 1) #[.int .i64 (t).me, .int .i64 (t).pr, .int .i64 (t).ppm, .int .i64 (t).stt, .int .i64 (t).ev, .int .i64 (t).ct, .int .i64 (t).ba, .int .i64 (t).mo, .int .i64 (t).pen, .int .i64 (t).fe, .string (t).cal, .string (t).cur] 23 := kt9.set_ne (by omega)
                      have kz10 : Bk.Blk (w9.setCell ⟨w.heap.size, 23, none⟩ (.slice da2 ls.length dk2)) (w.heap.size + 3) #[.int .i64 0, .int .i64 0, .int .i64 0, .int .i64 0, .int .i64 0, .int .i64 0, .int .i64 0, .int .i64 0, .int .i64 0, .int .i64 0, .int .i64 0, .int .i64 0, .int .i64 0, .int .i64 0, .int .i64 0, .int .i64 0, .int .i64 0, .int .i64 0, .int .i64 0, .int .i64 0, .int .i64 0, .string { data := #[] }, .string { data := #[] }, .slice none 0 0, .slice none 0 0] 31 := kz9.set_ne (by omega)
                      have cw10 : Below w.heap.size w (w9.setCell ⟨w.heap.size, 23, none⟩ (.slice da2 ls.length dk2)) := cw9.setCell (Nat.le_refl _) _
                      clear kt9 kz9 cw9
                      have hd10 : DuesIn (w9.setCell ⟨w.heap.size, 23, none⟩ (.slice da2 ls.length dk2)) da2 ls := dues_of_row hd9.1 (row_put hd9.row (fun ad had => by have := hf2 ad had; show ad.block ≠ w.heap.size; omega))
                      have hr10 : RowIn cenc (w9.setCell ⟨w.heap.size, 23, none⟩ (.slice da2 ls.length dk2)) a7 (l.cs ++ [(⟨day, N, l.tm⟩ : Ch)]) := row_put hr9 (fun ad had => by have := ha7 ad had; show ad.block ≠ w.heap.size; omega)
                      clear hd9 hr9
                      generalize (w9.setCell ⟨w.heap.size, 23, none⟩ (.slice da2 ls.length dk2)) = w10 at *
                      have c3 := k010.c3
                      have f3 := k010.f3
                      have c4 := k010.c4
                      have f4 := k010.f4
                      have c5 := k010.c5
                      have f5 := k010.f5
                      have c6 := k010.c6
                      have f6 := k010.f6
                      go_upto_region 20 with fail
                      clear c3 f3 c4 f4 c5 f5 c6 f6
                      have k011 : Bk.Blk (w10.setCell ⟨w.heap.size, 3, none⟩ (.int .i64 0)) w.heap.size #[.int .i64 l.id, .int .i64 l.ac, .int .i64 l.st, .int .i64 0, .int .i64 l.pi, .int .i64 l.fee, .int .i64 l.pen, .int .i64 l.chg, .int .i64 l.prov, .int .i64 l.loss, .int .i64 l.rcv, .int .i64 t.me, .int .i64 t.pr, .int .i64 t.ppm, .int .i64 t.stt, .int .i64 t.ev, .int .i64 t.ct, .int .i64 t.ba, .int .i64 t.mo, .int .i64 t.pen, .int .i64 t.fe, .string t.cal, .string t.cur, .slice da2 ls.length dk2, .slice a7 (l.cs.length + 1) c7] 31 := (k010.set_same (i := 3) (u := .int .i64 0)).conv rfl
                      clear k010
                      have kt11 : Bk.Blk (w10.setCell ⟨w.heap.size, 3, none⟩ (.int .i64 0)) (w.heap.size + 1) #[.int .i64 (t).me, .int .i64 (t).pr, .int .i64 (t).ppm, .int .i64 (t).stt, .int .i64 (t).ev, .int .i64 (t).ct, .int .i64 (t).ba, .int .i64 (t).mo, .int .i64 (t).pen, .int .i64 (t).fe, .string (t).cal, .string (t).cur] 23 := kt10.set_ne (by omega)
                      have kz11 : Bk.Blk (w10.setCell ⟨w.heap.size, 3, none⟩ (.int .i64 0)) (w.heap.size + 3) #[.int .i64 0, .int .i64 0, .int .i64 0, .int .i64 0, .int .i64 0, .int .i64 0, .int .i64 0, .int .i64 0, .int .i64 0, .int .i64 0, .int .i64 0, .int .i64 0, .int .i64 0, .int .i64 0, .int .i64 0, .int .i64 0, .int .i64 0, .int .i64 0, .int .i64 0, .int .i64 0, .int .i64 0, .string { data := #[] }, .string { data := #[] }, .slice none 0 0, .slice none 0 0] 31 := kz10.set_ne (by omega)
                      have cw11 : Below w.heap.size w (w10.setCell ⟨w.heap.size, 3, none⟩ (.int .i64 0)) := cw10.setCell (Nat.le_refl _) _
                      clear kt10 kz10 cw10
                      have hd11 : DuesIn (w10.setCell ⟨w.heap.size, 3, none⟩ (.int .i64 0)) da2 ls := dues_of_row hd10.1 (row_put hd10.row (fun ad had => by have := hf2 ad had; show ad.block ≠ w.heap.size; omega))
                      have hr11 : RowIn cenc (w10.setCell ⟨w.heap.size, 3, none⟩ (.int .i64 0)) a7 (l.cs ++ [(⟨day, N, l.tm⟩ : Ch)]) := row_put hr10 (fun ad had => by have := ha7 ad had; show ad.block ≠ w.heap.size; omega)
                      clear hd10 hr10
                      generalize (w10.setCell ⟨w.heap.size, 3, none⟩ (.int .i64 0)) = w11 at *
                      have k012 : Bk.Blk (w11.setCell ⟨w.heap.size, 4, none⟩ (.int .i64 0)) w.heap.size #[.int .i64 l.id, .int .i64 l.ac, .int .i64 l.st, .int .i64 0, .int .i64 0, .int .i64 l.fee, .int .i64 l.pen, .int .i64 l.chg, .int .i64 l.prov, .int .i64 l.loss, .int .i64 l.rcv, .int .i64 t.me, .int .i64 t.pr, .int .i64 t.ppm, .int .i64 t.stt, .int .i64 t.ev, .int .i64 t.ct, .int .i64 t.ba, .int .i64 t.mo, .int .i64 t.pen, .int .i64 t.fe, .string t.cal, .string t.cur, .slice da2 ls.length dk2, .slice a7 (l.cs.length + 1) c7] 31 := (k011.set_same (i := 4) (u := .int .i64 0)).conv rfl
                      clear k011
                      have kt12 : Bk.Blk (w11.setCell ⟨w.heap.size, 4, none⟩ (.int .i64 0)) (w.heap.size + 1) #[.int .i64 (t).me, .int .i64 (t).pr, .int .i64 (t).ppm, .int .i64 (t).stt, .int .i64 (t).ev, .int .i64 (t).ct, .int .i64 (t).ba, .int .i64 (t).mo, .int .i64 (t).pen, .int .i64 (t).fe, .string (t).cal, .string (t).cur] 23 := kt11.set_ne (by omega)
                      have kz12 : Bk.Blk (w11.setCell ⟨w.heap.size, 4, none⟩ (.int .i64 0)) (w.heap.size + 3) #[.int .i64 0, .int .i64 0, .int .i64 0, .int .i64 0, .int .i64 0, .int .i64 0, .int .i64 0, .int .i64 0, .int .i64 0, .int .i64 0, .int .i64 0, .int .i64 0, .int .i64 0, .int .i64 0, .int .i64 0, .int .i64 0, .int .i64 0, .int .i64 0, .int .i64 0, .int .i64 0, .int .i64 0, .string { data := #[] }, .string { data := #[] }, .slice none 0 0, .slice none 0 0] 31 := kz11.set_ne (by omega)
                      have cw12 : Below w.heap.size w (w11.setCell ⟨w.heap.size, 4, none⟩ (.int .i64 0)) := cw11.setCell (Nat.le_refl _) _
                      clear kt11 kz11 cw11
                      have hd12 : DuesIn (w11.setCell ⟨w.heap.size, 4, none⟩ (.int .i64 0)) da2 ls := dues_of_row hd11.1 (row_put hd11.row (fun ad had => by have := hf2 ad had; show ad.block ≠ w.heap.size; omega))
                      have hr12 : RowIn cenc (w11.setCell ⟨w.heap.size, 4, none⟩ (.int .i64 0)) a7 (l.cs ++ [(⟨day, N, l.tm⟩ : Ch)]) := row_put hr11 (fun ad had => by have := ha7 ad had; show ad.block ≠ w.heap.size; omega)
                      clear hd11 hr11
                      generalize (w11.setCell ⟨w.heap.size, 4, none⟩ (.int .i64 0)) = w12 at *
                      have k013 : Bk.Blk (w12.setCell ⟨w.heap.size, 5, none⟩ (.int .i64 0)) w.heap.size #[.int .i64 l.id, .int .i64 l.ac, .int .i64 l.st, .int .i64 0, .int .i64 0, .int .i64 0, .int .i64 l.pen, .int .i64 l.chg, .int .i64 l.prov, .int .i64 l.loss, .int .i64 l.rcv, .int .i64 t.me, .int .i64 t.pr, .int .i64 t.ppm, .int .i64 t.stt, .int .i64 t.ev, .int .i64 t.ct, .int .i64 t.ba, .int .i64 t.mo, .int .i64 t.pen, .int .i64 t.fe, .string t.cal, .string t.cur, .slice da2 ls.length dk2, .slice a7 (l.cs.length + 1) c7] 31 := (k012.set_same (i := 5) (u := .int .i64 0)).conv rfl
                      clear k012
                      have kt13 : Bk.Blk (w12.setCell ⟨w.heap.size, 5, none⟩ (.int .i64 0)) (w.heap.size + 1) #[.int .i64 (t).me, .int .i64 (t).pr, .int .i64 (t).ppm, .int .i64 (t).stt, .int .i64 (t).ev, .int .i64 (t).ct, .int .i64 (t).ba, .int .i64 (t).mo, .int .i64 (t).pen, .int .i64 (t).fe, .string (t).cal, .string (t).cur] 23 := kt12.set_ne (by omega)
                      have kz13 : Bk.Blk (w12.setCell ⟨w.heap.size, 5, none⟩ (.int .i64 0)) (w.heap.size + 3) #[.int .i64 0, .int .i64 0, .int .i64 0, .int .i64 0, .int .i64 0, .int .i64 0, .int .i64 0, .int .i64 0, .int .i64 0, .int .i64 0, .int .i64 0, .int .i64 0, .int .i64 0, .int .i64 0, .int .i64 0, .int .i64 0, .int .i64 0, .int .i64 0, .int .i64 0, .int .i64 0, .int .i64 0, .string { data := #[] }, .string { data := #[] }, .slice none 0 0, .slice none 0 0] 31 := kz12.set_ne (by omega)
                      have cw13 : Below w.heap.size w (w12.setCell ⟨w.heap.size, 5, none⟩ (.int .i64 0)) := cw12.setCell (Nat.le_refl _) _
                      clear kt12 kz12 cw12
                      have hd13 : DuesIn (w12.setCell ⟨w.heap.size, 5, none⟩ (.int .i64 0)) da2 ls := dues_of_row hd12.1 (row_put hd12.row (fun ad had => by have := hf2 ad had; show ad.block ≠ w.heap.size; omega))
                      have hr13 : RowIn cenc (w12.setCell ⟨w.heap.size, 5, none⟩ (.int .i64 0)) a7 (l.cs ++ [(⟨day, N, l.tm⟩ : Ch)]) := row_put hr12 (fun ad had => by have := ha7 ad had; show ad.block ≠ w.heap.size; omega)
                      clear hd12 hr12
                      generalize (w12.setCell ⟨w.heap.size, 5, none⟩ (.int .i64 0)) = w13 at *
                      have k014 : Bk.Blk (w13.setCell ⟨w.heap.size, 6, none⟩ (.int .i64 0)) w.heap.size #[.int .i64 l.id, .int .i64 l.ac, .int .i64 l.st, .int .i64 0, .int .i64 0, .int .i64 0, .int .i64 0, .int .i64 l.chg, .int .i64 l.prov, .int .i64 l.loss, .int .i64 l.rcv, .int .i64 t.me, .int .i64 t.pr, .int .i64 t.ppm, .int .i64 t.stt, .int .i64 t.ev, .int .i64 t.ct, .int .i64 t.ba, .int .i64 t.mo, .int .i64 t.pen, .int .i64 t.fe, .string t.cal, .string t.cur, .slice da2 ls.length dk2, .slice a7 (l.cs.length + 1) c7] 31 := (k013.set_same (i := 6) (u := .int .i64 0)).conv rfl
                      clear k013
                      have kt14 : Bk.Blk (w13.setCell ⟨w.heap.size, 6, none⟩ (.int .i64 0)) (w.heap.size + 1) #[.int .i64 (t).me, .int .i64 (t).pr, .int .i64 (t).ppm, .int .i64 (t).stt, .int .i64 (t).ev, .int .i64 (t).ct, .int .i64 (t).ba, .int .i64 (t).mo, .int .i64 (t).pen, .int .i64 (t).fe, .string (t).cal, .string (t).cur] 23 := kt13.set_ne (by omega)
                      have kz14 : Bk.Blk (w13.setCell ⟨w.heap.size, 6, none⟩ (.int .i64 0)) (w.heap.size + 3) #[.int .i64 0, .int .i64 0, .int .i64 0, .int .i64 0, .int .i64 0, .int .i64 0, .int .i64 0, .int .i64 0, .int .i64 0, .int .i64 0, .int .i64 0, .int .i64 0, .int .i64 0, .int .i64 0, .int .i64 0, .int .i64 0, .int .i64 0, .int .i64 0, .int .i64 0, .int .i64 0, .int .i64 0, .string { data := #[] }, .string { data := #[] }, .slice none 0 0, .slice none 0 0] 31 := kz13.set_ne (by omega)
                      have cw14 : Below w.heap.size w (w13.setCell ⟨w.heap.size, 6, none⟩ (.int .i64 0)) := cw13.setCell (Nat.le_refl _) _
                      clear kt13 kz13 cw13
                      have hd14 : DuesIn (w13.setCell ⟨w.heap.size, 6, none⟩ (.int .i64 0)) da2 ls := dues_of_row hd13.1 (row_put hd13.row (fun ad had => by have := hf2 ad had; show ad.block ≠ w.heap.size; omega))
                      have hr14 : RowIn cenc (w13.setCell ⟨w.heap.size, 6, none⟩ (.int .i64 0)) a7 (l.cs ++ [(⟨day, N, l.tm⟩ : Ch)]) := row_put hr13 (fun ad had => by have := ha7 ad had; show ad.block ≠ w.heap.size; omega)
                      clear hd13 hr13
                      generalize (w13.setCell ⟨w.heap.size, 6, none⟩ (.int .i64 0)) = w14 at *
                      have c7 := k014.c7
                      have f7 := k014.f7
                      go_upto_region 21 with fail
                      clear c7 f7
                      have k015 : Bk.Blk (w14.setCell ⟨w.heap.size, 7, none⟩ (.int .i64 (max l.chg day))) w.heap.size #[.int .i64 l.id, .int .i64 l.ac, .int .i64 l.st, .int .i64 0, .int .i64 0, .int .i64 0, .int .i64 0, .int .i64 (max l.chg day), .int .i64 l.prov, .int .i64 l.loss, .int .i64 l.rcv, .int .i64 t.me, .int .i64 t.pr, .int .i64 t.ppm, .int .i64 t.stt, .int .i64 t.ev, .int .i64 t.ct, .int .i64 t.ba, .int .i64 t.mo, .int .i64 t.pen, .int .i64 t.fe, .string t.cal, .string t.cur, .slice da2 ls.length dk2, .slice a7 (l.cs.length + 1) c7] 31 := (k014.set_same (i := 7) (u := .int .i64 (max l.chg day))).conv rfl
                      clear k014
                      have kt15 : Bk.Blk (w14.setCell ⟨w.heap.size, 7, none⟩ (.int .i64 (max l.chg day))) (w.heap.size + 1) #[.int .i64 (t).me, .int .i64 (t).pr, .int .i64 (t).ppm, .int .i64 (t).stt, .int .i64 (t).ev, .int .i64 (t).ct, .int .i64 (t).ba, .int .i64 (t).mo, .int .i64 (t).pen, .int .i64 (t).fe, .string (t).cal, .string (t).cur] 23 := kt14.set_ne (by omega)
                      have kz15 : Bk.Blk (w14.setCell ⟨w.heap.size, 7, none⟩ (.int .i64 (max l.chg day))) (w.heap.size + 3) #[.int .i64 0, .int .i64 0, .int .i64 0, .int .i64 0, .int .i64 0, .int .i64 0, .int .i64 0, .int .i64 0, .int .i64 0, .int .i64 0, .int .i64 0, .int .i64 0, .int .i64 0, .int .i64 0, .int .i64 0, .int .i64 0, .int .i64 0, .int .i64 0, .int .i64 0, .int .i64 0, .int .i64 0, .string { data := #[] }, .string { data := #[] }, .slice none 0 0, .slice none 0 0] 31 := kz14.set_ne (by omega)
                      have cw15 : Below w.heap.size w (w14.setCell ⟨w.heap.size, 7, none⟩ (.int .i64 (max l.chg day))) := cw14.setCell (Nat.le_refl _) _
                      clear kt14 kz14 cw14
                      have hd15 : DuesIn (w14.setCell ⟨w.heap.size, 7, none⟩ (.int .i64 (max l.chg day))) da2 ls := dues_of_row hd14.1 (row_put hd14.row (fun ad had => by have := hf2 ad had; show ad.block ≠ w.heap.size; omega))
                      have hr15 : RowIn cenc (w14.setCell ⟨w.heap.size, 7, none⟩ (.int .i64 (max l.chg day))) a7 (l.cs ++ [(⟨day, N, l.tm⟩ : Ch)]) := row_put hr14 (fun ad had => by have := ha7 ad had; show ad.block ≠ w.heap.size; omega)
                      clear hd14 hr14
                      generalize (w14.setCell ⟨w.heap.size, 7, none⟩ (.int .i64 (max l.chg day))) = w15 at *
                      go_wp2_with (first | (refine wpList_load_row rfl 31 _ rfl _ rfl _ _ _ _ k015 Tryz.underlying31 rfl (by kernel_rfl) ?_) | (refine wpList_store_row rfl 31 _ _ rfl _ _ rfl rfl _ _ kz15 (by kernel_rfl) rfl (by simp [Value.oneCell']) ?_))
                      (try simp only [Exit.inBlock, Exit.then])
                      refine bodyPost_ret (results2_cell Tryz.results49 _ _ _ _ _ _ _ rfl (Blk_setRow_same kz15) Tryz.underlying31 rfl (by kernel_rfl)) rfl ?_
                      exact chOut_ok HE3.out HLS.out HN.out (dues_setRow hd15 (fun ad had => by have := hf2 ad had; omega)) (row_row hr15 (fun ad had => by have := ha7 ad had; omega)) ⟨fun ad had => by have := hf2 ad had; omega, fun ad had => by have := ha7 ad had; omega⟩ (Below_setRow cw15 (by omega) _)
            · have HB := Lib.hid (bad_0 (l := l) b1 (b2.trans HN.out) b3 (fun h => absurd h h0))
              clear b1 b2 b3
              have h5 : ¬ 64 ≤ l.cs.length := by omega
              have HF5 := Lib.hid (chE_5 (c := c) H1.out H2.out HB.out h5)
              go_wp2_with fail
              clear l0 l1 l2 l3 l4 l5 l6 l7 l8 l9 l10 l11 m0 m1 m2
              clear l22 l24
              have hz3 := kz.lt
              refine (Kl.build_any t c wa ha wc hc _ hi hcu hS).mono ?_
              rintro e w4 ⟨da2, dk2, rfl, hd2, hf2, hb⟩
              replace k0 := k0.later hb
              replace kt := kt.later hb
              replace kc := kc.later hb
              replace kz := kz.later hb
              replace hi := hi.later hb
              replace hS := hS.of hb
              replace hd := hd.later hb
              replace hr := hr.later hb
              have cw4 := bl2 hb cw3
              clear hb cw3
              by_cases he3 : blE t c ≠ 0
              · have HF := Lib.hid HF5.out
                have HN3 := Lib.hid he3
                have g3 : (blE t c != 0) = true := by simpa using he3
                clear he3 hd2 hf2
                generalize blE t c = E3 at HF HN3 g3 ⊢
                go_wp2_with (refine wpList_store_row rfl 31 _ _ rfl _ _ rfl rfl _ _ kz (by kernel_rfl) rfl (by simp [Value.oneCell']) ?_)
                (try simp only [Exit.inBlock, Exit.then])
                refine bodyPost_ret (results2_cell Tryz.results49 _ _ _ _ _ _ _ rfl (Blk_setRow_same kz) Tryz.underlying31 rfl (by kernel_rfl)) rfl ?_
                exact chOut_no HF.out HN3.out (Below_setRow cw4 (by omega) _)
              · have g3 : (blE t c != 0) = false := by simpa using he3
                have he30 : blE t c = 0 := Classical.byContradiction he3
                have HE3 := Lib.hid (show chE l t day c = 0 from HF5.out.trans he30)
                clear he3 he30 HF5
                generalize blE t c = E3 at g3 ⊢
                obtain ⟨ls, hls⟩ : ∃ ls, ls = blV t c := ⟨_, rfl⟩
                rw [← hls] at hd2 ⊢
                have HLS := Lib.hid hls
                clear hls
                obtain ⟨ti, hi1, hi2, hi3, hi4⟩ := info_parts chg_info
                have HI := Lib.hid (And.intro hi1 (And.intro hi2 hi3))
                clear hi1 hi2 hi3
                go_upto_region 15 with fail
                go_cut [11, 13, 14, 15] from 10 to 86 (fun s11 s13 s14 s15 wx => s11 = .int .i64 N ∧ s13 = .int .i64 l.cs.length ∧ s14 = .slice da2 ls.length dk2 ∧ s15 = .slice (some ⟨w4.heap.size, 0, none⟩) l.cs.length (l.cs.length + 1) ∧ wx = (w4.alloc (.cells (madeCells (Value.cells (.agg #[.int .i64 0, .int .i64 0, .int .i64 0, .int .i64 0, .int .i64 0, .int .i64 0, .int .i64 0, .int .i64 0, .int .i64 0, .int .i64 0, .int .i64 0, .int .i64 0, .string .empty, .string .empty])) ((l.cs.length + 1) * 14)) 75)))
                case first =>
                  go_wp2_with (at_make; go_loud (refine wpList_make_n _ rfl _ _ _ rfl 75 ti _ 14 Tryz.underlying29 HI.out.1 HI.out.2.1 HI.out.2.2 .i64 .i64 _ l.cs.length (l.cs.length + 1) rfl rfl (by first | rfl | omega | (simp; done)) (by omega) (by rw [hi4]; omega) (by unfold maxLen; omega) ?_))
                  go_meet
                  exact ⟨rfl, rfl, rfl, rfl, rfl⟩
                case rest =>
                  obtain ⟨rfl, rfl, rfl, rfl, rfl⟩ := hcut
                  have hb5 : Below w4.heap.size w4 (w4.alloc (.cells (madeCells (Value.cells (.agg #[.int .i64 0, .int .i64 0, .int .i64 0, .int .i64 0, .int .i64 0, .int .i64 0, .int .i64 0, .int .i64 0, .int .i64 0, .int .i64 0, .int .i64 0, .int .i64 0, .string .empty, .string .empty])) ((l.cs.length + 1) * 14)) 75)) := (Below.refl _ _).alloc (Nat.le_refl _) _
                  have k5 : Bk.Blk (w4.alloc (.cells (madeCells (Value.cells (.agg #[.int .i64 0, .int .i64 0, .int .i64 0, .int .i64 0, .int .i64 0, .int .i64 0, .int .i64 0, .int .i64 0, .int .i64 0, .int .i64 0, .int .i64 0, .int .i64 0, .string .empty, .string .empty])) ((l.cs.length + 1) * 14)) 75)) w4.heap.size (madeCells (Value.cells (.agg #[.int .i64 0, .int .i64 0, .int .i64 0, .int .i64 0, .int .i64 0, .int .i64 0, .int .i64 0, .int .i64 0, .int .i64 0, .int .i64 0, .int .i64 0, .int .i64 0, .string .empty, .string .empty])) ((l.cs.length + 1) * 14)) 75 := Bk.Blk.nw10
                  have hg4 : w.heap.size + 4 ≤ w4.heap.size := by have := cw4.size; have := kz.lt; omega
                  replace k0 := k0.later hb5
                  replace kt := kt.later hb5
                  replace kz := kz.later hb5
                  replace hr := hr.later hb5
                  have cw5 := bl2 hb5 cw4
                  have hcs5 := size_madeCells (Value.cells (.agg #[.int .i64 0, .int .i64 0, .int .i64 0, .int .i64 0, .int .i64 0, .int .i64 0, .int .i64 0, .int .i64 0, .int .i64 0, .int .i64 0, .int .i64 0, .int .i64 0, .string .empty, .string .empty])) ((l.cs.length + 1) * 14)
                  have h5s : w4.heap.size < (w4.alloc (.cells (madeCells (Value.cells (.agg #[.int .i64 0, .int .i64 0, .int .i64 0, .int .i64 0, .int .i64 0, .int .i64 0, .int .i64 0, .int .i64 0, .int .i64 0, .int .i64 0, .int .i64 0, .int .i64 0, .string .empty, .string .empty])) ((l.cs.length + 1) * 14)) 75)).heap.size := by simp
                  have HDL := Lib.hid (fun W (hW : Below w4.heap.size w4 W) => hd2.later hW)
                  clear hi hS kc cw4 HI hi4 hd2 hd
                  generalize madeCells (Value.cells (.agg #[.int .i64 0, .int .i64 0, .int .i64 0, .int .i64 0, .int .i64 0, .int .i64 0, .int .i64 0, .int .i64 0, .int .i64 0, .int .i64 0, .int .i64 0, .int .i64 0, .string .empty, .string .empty])) ((l.cs.length + 1) * 14) = cur at *
                  generalize w4.alloc (.cells cur 75) = w5 at *
                  generalize w4.heap.size = g5 at *
                  have hms := maxlen_le (n := l.cs.length) (by omega)
                  have hcs0 : l.cs = [] := List.length_eq_zero_iff.1 (by omega)
                  have ho6 : OwnR cenc 14 75 w5 w.heap.size g5 (l.cs.length + 1) l.cs := ⟨by omega, hms, cur.toList, by rw [Array.length_toList, hcs5]; omega, k5.conv (by rw [hcs0]; simp [flat])⟩
                  clear hcs0
                  have l24 := k0.c24
                  have hz0 : l.cs.length = 0 := by omega
                  have HZ0 := Lib.hid hz0
                  clear hz0 hr
                  go_upto_region 17 with (refine wpList_copy_0 rfl _ _ 29 29 rfl 75 14 Tryz.underlying29 (by kernel_rfl) _ _ _ _ _ rfl rfl HZ0.out ?_)
                  clear l24 k5 hcs5
                  have hb6 := hb5
                  have cw6 := cw5
                  have k06 := k0
                  have kt6 := kt
                  have kz6 := kz
                  have h6s := h5s
                  clear hb5 cw5 k0 kt kz h5s
                  generalize w5 = w6 at *
                  have hv6 := Sr.OwnR.gv cenc_len (by decide) ho6
                  clear ho6
                  have HTM := Lib.hid (tm_range k06)
                  have hs6 : w.heap.size ≤ w6.heap.size := by have := k06.lt; omega
                  have hg6 := h6s
                  clear h6s
                  go_upto_region 18 with (first | (refine wpList_load_mid rfl 23 _ rfl w.heap.size 11 (by first | rfl | simp) [.int .i64 (l.tm).me, .int .i64 (l.tm).pr, .int .i64 (l.tm).ppm, .int .i64 (l.tm).stt, .int .i64 (l.tm).ev, .int .i64 (l.tm).ct, .int .i64 (l.tm).ba, .int .i64 (l.tm).mo, .int .i64 (l.tm).pen, .int .i64 (l.tm).fe, .string (l.tm).cal, .string (l.tm).cur] _ HTM.out Tryz.underlying23 rfl (by kernel_rfl) ?_) | (at_builtin; go_loud (refine Sr.app_gv cenc_len cenc_one (by decide) (by decide) rfl chg_info Tryz.underlying29 ⟨day, N, l.tm⟩ rfl _ _ rfl rfl hv6 rfl (by omega) hs6 ?_; intro v7 w7 hv7 hgr hat; obtain ⟨a7, c7, rfl, hr7, _⟩ := hv7.row; have k07 := Sr.grown_blk k06 hgr (own_ne (by omega)); have kt7 := Sr.grown_blk kt6 hgr (own_ne (by omega)); have kz7 := Sr.grown_blk kz6 hgr (own_ne (by omega)); have cw7 := Sr.grown_below cw6 hv6 hgr; have c24 := k07.c24; have f24 := k07.f24; have hb7 : Below g5 w4 w7 := (hb6.alloc (Nat.le_of_lt hg6) _).grown hgr (by simp; omega) (fun j hj => Nat.le_of_eq (Option.some.inj hj)))))
                  have ha7 : ∀ ad, a7 = some ad → g5 ≤ ad.block := fun ad had => by
                    subst had
                    rcases hat with h | h
                    · exact Nat.le_of_eq (Option.some.inj h).symm
                    · have := Option.some.inj h; omega
                  have hd7 := HDL.out _ hb7
                  clear hb7 hat hgr k06 kt6 kz6 cw6 hb6 HTM hv6 hs6 c24 f24 hv7 HDL
                  have k08 : Bk.Blk (w7.setCell ⟨w.heap.size, 24, none⟩ (.slice a7 (l.cs.length + 1) c7)) w.heap.size #[.int .i64 l.id, .int .i64 l.ac, .int .i64 l.st, .int .i64 l.pp, .int .i64 l.pi, .int .i64 l.fee, .int .i64 l.pen, .int .i64 l.chg, .int .i64 l.prov, .int .i64 l.loss, .int .i64 l.rcv, .int .i64 l.tm.me, .int .i64 l.tm.pr, .int .i64 l.tm.ppm, .int .i64 l.tm.stt, .int .i64 l.tm.ev, .int .i64 l.tm.ct, .int .i64 l.tm.ba, .int .i64 l.tm.mo, .int .i64 l.tm.pen, .int .i64 l.tm.fe, .string l.tm.cal, .string l.tm.cur, .slice da l.ds.length dk, .slice a7 (l.cs.length + 1) c7] 31 := (k07.set_same (i := 24) (u := .slice a7 (l.cs.length + 1) c7)).conv rfl
                  clear k07
                  have kt8 : Bk.Blk (w7.setCell ⟨w.heap.size, 24, none⟩ (.slice a7 (l.cs.length + 1) c7)) (w.heap.size + 1) #[.int .i64 (t).me, .int .i64 (t).pr, .int .i64 (t).ppm, .int .i64 (t).stt, .int .i64 (t).ev, .int .i64 (t).ct, .int .i64 (t).ba, .int .i64 (t).mo, .int .i64 (t).pen, .int .i64 (t).fe, .string (t).cal, .string (t).cur] 23 := kt7.set_ne (by omega)
                  have kz8 : Bk.Blk (w7.setCell ⟨w.heap.size, 24, none⟩ (.slice a7 (l.cs.length + 1) c7)) (w.heap.size + 3) #[.int .i64 0, .int .i64 0, .int .i64 0, .int .i64 0, .int .i64 0, .int .i64 0, .int .i64 0, .int .i64 0, .int .i64 0, .int .i64 0, .int .i64 0, .int .i64 0, .int .i64 0, .int .i64 0, .int .i64 0, .int .i64 0, .int .i64 0, .int .i64 0, .int .i64 0, .int .i64 0, .int .i64 0, .string { data := #[] }, .string { data := #[] }, .slice none 0 0, .slice none 0 0] 31 := kz7.set_ne (by omega)
                  have cw8 : Below w.heap.size w (w7.setCell ⟨w.heap.size, 24, none⟩ (.slice a7 (l.cs.length + 1) c7)) := cw7.setCell (Nat.le_refl _) _
                  clear kt7 kz7 cw7
                  have hd8 : DuesIn (w7.setCell ⟨w.heap.size, 24, none⟩ (.slice a7 (l.cs.length + 1) c7)) da2 ls := dues_of_row hd7.1 (row_put hd7.row (fun ad had => by have := hf2 ad had; show ad.block ≠ w.heap.size; omega))
                  have hr8 : RowIn cenc (w7.setCell ⟨w.heap.size, 24, none⟩ (.slice a7 (l.cs.length + 1) c7)) a7 (l.cs ++ [(⟨day, N, l.tm⟩ : Ch)]) := row_put hr7 (fun ad had => by have := ha7 ad had; show ad.block ≠ w.heap.size; omega)
                  clear hd7 hr7
                  generalize (w7.setCell ⟨w.heap.size, 24, none⟩ (.slice a7 (l.cs.length + 1) c7)) = w8 at *
                  have k09 : Bk.Blk (w8.setRow w.heap.size #[.int .i64 l.id, .int .i64 l.ac, .int .i64 l.st, .int .i64 l.pp, .int .i64 l.pi, .int .i64 l.fee, .int .i64 l.pen, .int .i64 l.chg, .int .i64 l.prov, .int .i64 l.loss, .int .i64 l.rcv, .int .i64 t.me, .int .i64 t.pr, .int .i64 t.ppm, .int .i64 t.stt, .int .i64 t.ev, .int .i64 t.ct, .int .i64 t.ba, .int .i64 t.mo, .int .i64 t.pen, .int .i64 t.fe, .string t.cal, .string t.cur, .slice da l.ds.length dk, .slice a7 (l.cs.length + 1) c7]) w.heap.size #[.int .i64 l.id, .int .i64 l.ac, .int .i64 l.st, .int .i64 l.pp, .int .i64 l.pi, .int .i64 l.fee, .int .i64 l.pen, .int .i64 l.chg, .int .i64 l.prov, .int .i64 l.loss, .int .i64 l.rcv, .int .i64 t.me, .int .i64 t.pr, .int .i64 t.ppm, .int .i64 t.stt, .int .i64 t.ev, .int .i64 t.ct, .int .i64 t.ba, .int .i64 t.mo, .int .i64 t.pen, .int .i64 t.fe, .string t.cal, .string t.cur, .slice da l.ds.length dk, .slice a7 (l.cs.length + 1) c7] 31 := Blk_setRow_same k08
                  have kt9 : Bk.Blk (w8.setRow w.heap.size #[.int .i64 l.id, .int .i64 l.ac, .int .i64 l.st, .int .i64 l.pp, .int .i64 l.pi, .int .i64 l.fee, .int .i64 l.pen, .int .i64 l.chg, .int .i64 l.prov, .int .i64 l.loss, .int .i64 l.rcv, .int .i64 t.me, .int .i64 t.pr, .int .i64 t.ppm, .int .i64 t.stt, .int .i64 t.ev, .int .i64 t.ct, .int .i64 t.ba, .int .i64 t.mo, .int .i64 t.pen, .int .i64 t.fe, .string t.cal, .string t.cur, .slice da l.ds.length dk, .slice a7 (l.cs.length + 1) c7]) (w.heap.size + 1) #[.int .i64 (t).me, .int .i64 (t).pr, .int .i64 (t).ppm, .int .i64 (t).stt, .int .i64 (t).ev, .int .i64 (t).ct, .int .i64 (t).ba, .int .i64 (t).mo, .int .i64 (t).pen, .int .i64 (t).fe, .string (t).cal, .string (t).cur] 23 := Blk_setRow_ne kt8 (by omega)
                  have kz9 : Bk.Blk (w8.setRow w.heap.size #[.int .i64 l.id, .int .i64 l.ac, .int .i64 l.st, .int .i64 l.pp, .int .i64 l.pi, .int .i64 l.fee, .int .i64 l.pen, .int .i64 l.chg, .int .i64 l.prov, .int .i64 l.loss, .int .i64 l.rcv, .int .i64 t.me, .int .i64 t.pr, .int .i64 t.ppm, .int .i64 t.stt, .int .i64 t.ev, .int .i64 t.ct, .int .i64 t.ba, .int .i64 t.mo, .int .i64 t.pen, .int .i64 t.fe, .string t.cal, .string t.cur, .slice da l.ds.length dk, .slice a7 (l.cs.length + 1) c7]) (w.heap.size + 3) #[.int .i64 0, .int .i64 0, .int .i64 0, .int .i64 0, .int .i64 0, .int .i64 0, .int .i64 0, .int .i64 0, .int .i64 0, .int .i64 0, .int .i64 0, .int .i64 0, .int .i64 0, .int .i64 0, .int .i64 0, .int .i64 0, .int .i64 0, .int .i64 0, .int .i64 0, .int .i64 0, .int .i64 0, .string { data := #[] }, .string { data := #[] }, .slice none 0 0, .slice none 0 0] 31 := Blk_setRow_ne kz8 (by omega)
                  have cw9 : Below w.heap.size w (w8.setRow w.heap.size #[.int .i64 l.id, .int .i64 l.ac, .int .i64 l.st, .int .i64 l.pp, .int .i64 l.pi, .int .i64 l.fee, .int .i64 l.pen, .int .i64 l.chg, .int .i64 l.prov, .int .i64 l.loss, .int .i64 l.rcv, .int .i64 t.me, .int .i64 t.pr, .int .i64 t.ppm, .int .i64 t.stt, .int .i64 t.ev, .int .i64 t.ct, .int .i64 t.ba, .int .i64 t.mo, .int .i64 t.pen, .int .i64 t.fe, .string t.cal, .string t.cur, .slice da l.ds.length dk, .slice a7 (l.cs.length + 1) c7]) := Below_setRow cw8 (Nat.le_refl _) _
                  have hd9 : DuesIn (w8.setRow w.heap.size #[.int .i64 l.id, .int .i64 l.ac, .int .i64 l.st, .int .i64 l.pp, .int .i64 l.pi, .int .i64 l.fee, .int .i64 l.pen, .int .i64 l.chg, .int .i64 l.prov, .int .i64 l.loss, .int .i64 l.rcv, .int .i64 t.me, .int .i64 t.pr, .int .i64 t.ppm, .int .i64 t.stt, .int .i64 t.ev, .int .i64 t.ct, .int .i64 t.ba, .int .i64 t.mo, .int .i64 t.pen, .int .i64 t.fe, .string t.cal, .string t.cur, .slice da l.ds.length dk, .slice a7 (l.cs.length + 1) c7]) da2 ls := dues_setRow hd8 (fun ad had => by have := hf2 ad had; omega)
                  have hr9 : RowIn cenc (w8.setRow w.heap.size #[.int .i64 l.id, .int .i64 l.ac, .int .i64 l.st, .int .i64 l.pp, .int .i64 l.pi, .int .i64 l.fee, .int .i64 l.pen, .int .i64 l.chg, .int .i64 l.prov, .int .i64 l.loss, .int .i64 l.rcv, .int .i64 t.me, .int .i64 t.pr, .int .i64 t.ppm, .int .i64 t.stt, .int .i64 t.ev, .int .i64 t.ct, .int .i64 t.ba, .int .i64 t.mo, .int .i64 t.pen, .int .i64 t.fe, .string t.cal, .string t.cur, .slice da l.ds.length dk, .slice a7 (l.cs.length + 1) c7]) a7 (l.cs ++ [(⟨day, N, l.tm⟩ : Ch)]) := row_row hr8 (fun ad had => by have := ha7 ad had; omega)
                  clear hd8 hr8 cw8
                  have c23 := k09.c23
                  have f23 := k09.f23
                  go_upto_region 19 with (first | (refine wpList_load_row rfl 23 _ rfl _ rfl _ _ _ _ kt8 Tryz.underlying23 rfl (by kernel_rfl) ?_) | (refine wpList_store_in rfl 23 _ _ rfl w.heap.size 11 #[.int .i64 (t).me, .int .i64 (t).pr, .int .i64 (t).ppm, .int .i64 (t).stt, .int .i64 (t).ev, .int .i64 (t).ct, .int .i64 (t).ba, .int .i64 (t).mo, .int .i64 (t).pen, .int .i64 (t).fe, .string (t).cal, .string (t).cur] (by first | rfl | simp) rfl 31 _ k08 (by kernel_rfl) (show 11 + 12 ≤ 25 by decide) (by simp [Value.oneCell']) #[.int .i64 l.id, .int .i64 l.ac, .int .i64 l.st, .int .i64 l.pp, .int .i64 l.pi, .int .i64 l.fee, .int .i64 l.pen, .int .i64 l.chg, .int .i64 l.prov, .int .i64 l.loss, .int .i64 l.rcv, .int .i64 t.me, .int .i64 t.pr, .int .i64 t.ppm, .int .i64 t.stt, .int .i64 t.ev, .int .i64 t.ct, .int .i64 t.ba, .int .i64 t.mo, .int .i64 t.pen, .int .i64 t.fe, .string t.cal, .string t.cur, .slice da l.ds.length dk, .slice a7 (l.cs.length + 1) c7] rfl ?_))
                  clear c23 f23
                  clear k08 kt8 kz8
                  generalize (w8.setRow w.heap.size #[.int .i64 l.id, .int .i64 l.ac, .int .i64 l.st, .int .i64 l.pp, .int .i64 l.pi, .int .i64 l.fee, .int .i64 l.pen, .int .i64 l.chg, .int .i64 l.prov, .int .i64 l.loss, .int .i64 l.rcv, .int .i64 t.me, .int .i64 t.pr, .int .i64 t.ppm, .int .i64 t.stt, .int .i64 t.ev, .int .i64 t.ct, .int .i64 t.ba, .int .i64 t.mo, .int .i64 t.pen, .int .i64 t.fe, .string t.cal, .string t.cur, .slice da l.ds.length dk, .slice a7 (l.cs.length + 1) c7]) = w9 at *
                  have k010 : Bk.Blk (w9.setCell ⟨w.heap.size, 23, none⟩ (.slice da2 ls.length dk2)) w.heap.size #[.int .i64 l.id, .int .i64 l.ac, .int .i64 l.st, .int .i64 l.pp, .int .i64 l.pi, .int .i64 l.fee, .int .i64 l.pen, .int .i64 l.chg, .int .i64 l.prov, .int .i64 l.loss, .int .i64 l.rcv, .int .i64 t.me, .int .i64 t.pr, .int .i64 t.ppm, .int .i64 t.stt, .int .i64 t.ev, .int .i64 t.ct, .int .i64 t.ba, .int .i64 t.mo, .int .i64 t.pen, .int .i64 t.fe, .string t.cal, .string t.cur, .slice da2 ls.length dk2, .slice a7 (l.cs.length + 1) c7] 31 := (k09.set_same (i := 23) (u := .slice da2 ls.length dk2)).conv rfl
                  clear k09
                  have kt10 : Bk.Blk (w9.setCell ⟨w.heap.size, 23, none⟩ (.slice da2 ls.length dk2)) (w.heap.size + 1) #[.int .i64 (t).me, .int .i64 (t).pr, .int .i64 (t).ppm, .int .i64 (t).stt, .int .i64 (t).ev, .int .i64 (t).ct, .int .i64 (t).ba, .int .i64 (t).mo, .int .i64 (t).pen, .int .i64 (t).fe, .string (t).cal, .string (t).cur] 23 := kt9.set_ne (by omega)
                  have kz10 : Bk.Blk (w9.setCell ⟨w.heap.size, 23, none⟩ (.slice da2 ls.length dk2)) (w.heap.size + 3) #[.int .i64 0, .int .i64 0, .int .i64 0, .int .i64 0, .int .i64 0, .int .i64 0, .int .i64 0, .int .i64 0, .int .i64 0, .int .i64 0, .int .i64 0, .int .i64 0, .int .i64 0, .int .i64 0, .int .i64 0, .int .i64 0, .int .i64 0, .int .i64 0, .int .i64 0, .int .i64 0, .int .i64 0, .string { data := #[] }, .string { data := #[] }, .slice none 0 0, .slice none 0 0] 31 := kz9.set_ne (by omega)
                  have cw10 : Below w.heap.size w (w9.setCell ⟨w.heap.size, 23, none⟩ (.slice da2 ls.length dk2)) := cw9.setCell (Nat.le_refl _) _
                  clear kt9 kz9 cw9
                  have hd10 : DuesIn (w9.setCell ⟨w.heap.size, 23, none⟩ (.slice da2 ls.length dk2)) da2 ls := dues_of_row hd9.1 (row_put hd9.row (fun ad had => by have := hf2 ad had; show ad.block ≠ w.heap.size; omega))
                  have hr10 : RowIn cenc (w9.setCell ⟨w.heap.size, 23, none⟩ (.slice da2 ls.length dk2)) a7 (l.cs ++ [(⟨day, N, l.tm⟩ : Ch)]) := row_put hr9 (fun ad had => by have := ha7 ad had; show ad.block ≠ w.heap.size; omega)
                  clear hd9 hr9
                  generalize (w9.setCell ⟨w.heap.size, 23, none⟩ (.slice da2 ls.length dk2)) = w10 at *
                  have c3 := k010.c3
                  have f3 := k010.f3
                  have c4 := k010.c4
                  have f4 := k010.f4
                  have c5 := k010.c5
                  have f5 := k010.f5
                  have c6 := k010.c6
                  have f6 := k010.f6
                  go_upto_region 20 with fail
                  clear c3 f3 c4 f4 c5 f5 c6 f6
                  have k011 : Bk.Blk (w10.setCell ⟨w.heap.size, 3, none⟩ (.int .i64 0)) w.heap.size #[.int .i64 l.id, .int .i64 l.ac, .int .i64 l.st, .int .i64 0, .int .i64 l.pi, .int .i64 l.fee, .int .i64 l.pen, .int .i64 l.chg, .int .i64 l.prov, .int .i64 l.loss, .int .i64 l.rcv, .int .i64 t.me, .int .i64 t.pr, .int .i64 t.ppm, .int .i64 t.stt, .int .i64 t.ev, .int .i64 t.ct, .int .i64 t.ba, .int .i64 t.mo, .int .i64 t.pen, .int .i64 t.fe, .string t.cal, .string t.cur, .slice da2 ls.length dk2, .slice a7 (l.cs.length + 1) c7] 31 := (k010.set_same (i := 3) (u := .int .i64 0)).conv rfl
                  clear k010
                  have kt11 : Bk.Blk (w10.setCell ⟨w.heap.size, 3, none⟩ (.int .i64 0)) (w.heap.size + 1) #[.int .i64 (t).me, .int .i64 (t).pr, .int .i64 (t).ppm, .int .i64 (t).stt, .int .i64 (t).ev, .int .i64 (t).ct, .int .i64 (t).ba, .int .i64 (t).mo, .int .i64 (t).pen, .int .i64 (t).fe, .string (t).cal, .string (t).cur] 23 := kt10.set_ne (by omega)
                  have kz11 : Bk.Blk (w10.setCell ⟨w.heap.size, 3, none⟩ (.int .i64 0)) (w.heap.size + 3) #[.int .i64 0, .int .i64 0, .int .i64 0, .int .i64 0, .int .i64 0, .int .i64 0, .int .i64 0, .int .i64 0, .int .i64 0, .int .i64 0, .int .i64 0, .int .i64 0, .int .i64 0, .int .i64 0, .int .i64 0, .int .i64 0, .int .i64 0, .int .i64 0, .int .i64 0, .int .i64 0, .int .i64 0, .string { data := #[] }, .string { data := #[] }, .slice none 0 0, .slice none 0 0] 31 := kz10.set_ne (by omega)
                  have cw11 : Below w.heap.size w (w10.setCell ⟨w.heap.size, 3, none⟩ (.int .i64 0)) := cw10.setCell (Nat.le_refl _) _
                  clear kt10 kz10 cw10
                  have hd11 : DuesIn (w10.setCell ⟨w.heap.size, 3, none⟩ (.int .i64 0)) da2 ls := dues_of_row hd10.1 (row_put hd10.row (fun ad had => by have := hf2 ad had; show ad.block ≠ w.heap.size; omega))
                  have hr11 : RowIn cenc (w10.setCell ⟨w.heap.size, 3, none⟩ (.int .i64 0)) a7 (l.cs ++ [(⟨day, N, l.tm⟩ : Ch)]) := row_put hr10 (fun ad had => by have := ha7 ad had; show ad.block ≠ w.heap.size; omega)
                  clear hd10 hr10
                  generalize (w10.setCell ⟨w.heap.size, 3, none⟩ (.int .i64 0)) = w11 at *
                  have k012 : Bk.Blk (w11.setCell ⟨w.heap.size, 4, none⟩ (.int .i64 0)) w.heap.size #[.int .i64 l.id, .int .i64 l.ac, .int .i64 l.st, .int .i64 0, .int .i64 0, .int .i64 l.fee, .int .i64 l.pen, .int .i64 l.chg, .int .i64 l.prov, .int .i64 l.loss, .int .i64 l.rcv, .int .i64 t.me, .int .i64 t.pr, .int .i64 t.ppm, .int .i64 t.stt, .int .i64 t.ev, .int .i64 t.ct, .int .i64 t.ba, .int .i64 t.mo, .int .i64 t.pen, .int .i64 t.fe, .string t.cal, .string t.cur, .slice da2 ls.length dk2, .slice a7 (l.cs.length + 1) c7] 31 := (k011.set_same (i := 4) (u := .int .i64 0)).conv rfl
                  clear k011
                  have kt12 : Bk.Blk (w11.setCell ⟨w.heap.size, 4, none⟩ (.int .i64 0)) (w.heap.size + 1) #[.int .i64 (t).me, .int .i64 (t).pr, .int .i64 (t).ppm, .int .i64 (t).stt, .int .i64 (t).ev, .int .i64 (t).ct, .int .i64 (t).ba, .int .i64 (t).mo, .int .i64 (t).pen, .int .i64 (t).fe, .string (t).cal, .string (t).cur] 23 := kt11.set_ne (by omega)
                  have kz12 : Bk.Blk (w11.setCell ⟨w.heap.size, 4, none⟩ (.int .i64 0)) (w.heap.size + 3) #[.int .i64 0, .int .i64 0, .int .i64 0, .int .i64 0, .int .i64 0, .int .i64 0, .int .i64 0, .int .i64 0, .int .i64 0, .int .i64 0, .int .i64 0, .int .i64 0, .int .i64 0, .int .i64 0, .int .i64 0, .int .i64 0, .int .i64 0, .int .i64 0, .int .i64 0, .int .i64 0, .int .i64 0, .string { data := #[] }, .string { data := #[] }, .slice none 0 0, .slice none 0 0] 31 := kz11.set_ne (by omega)
                  have cw12 : Below w.heap.size w (w11.setCell ⟨w.heap.size, 4, none⟩ (.int .i64 0)) := cw11.setCell (Nat.le_refl _) _
                  clear kt11 kz11 cw11
                  have hd12 : DuesIn (w11.setCell ⟨w.heap.size, 4, none⟩ (.int .i64 0)) da2 ls := dues_of_row hd11.1 (row_put hd11.row (fun ad had => by have := hf2 ad had; show ad.block ≠ w.heap.size; omega))
                  have hr12 : RowIn cenc (w11.setCell ⟨w.heap.size, 4, none⟩ (.int .i64 0)) a7 (l.cs ++ [(⟨day, N, l.tm⟩ : Ch)]) := row_put hr11 (fun ad had => by have := ha7 ad had; show ad.block ≠ w.heap.size; omega)
                  clear hd11 hr11
                  generalize (w11.setCell ⟨w.heap.size, 4, none⟩ (.int .i64 0)) = w12 at *
                  have k013 : Bk.Blk (w12.setCell ⟨w.heap.size, 5, none⟩ (.int .i64 0)) w.heap.size #[.int .i64 l.id, .int .i64 l.ac, .int .i64 l.st, .int .i64 0, .int .i64 0, .int .i64 0, .int .i64 l.pen, .int .i64 l.chg, .int .i64 l.prov, .int .i64 l.loss, .int .i64 l.rcv, .int .i64 t.me, .int .i64 t.pr, .int .i64 t.ppm, .int .i64 t.stt, .int .i64 t.ev, .int .i64 t.ct, .int .i64 t.ba, .int .i64 t.mo, .int .i64 t.pen, .int .i64 t.fe, .string t.cal, .string t.cur, .slice da2 ls.length dk2, .slice a7 (l.cs.length + 1) c7] 31 := (k012.set_same (i := 5) (u := .int .i64 0)).conv rfl
                  clear k012
                  have kt13 : Bk.Blk (w12.setCell ⟨w.heap.size, 5, none⟩ (.int .i64 0)) (w.heap.size + 1) #[.int .i64 (t).me, .int .i64 (t).pr, .int .i64 (t).ppm, .int .i64 (t).stt, .int .i64 (t).ev, .int .i64 (t).ct, .int .i64 (t).ba, .int .i64 (t).mo, .int .i64 (t).pen, .int .i64 (t).fe, .string (t).cal, .string (t).cur] 23 := kt12.set_ne (by omega)
                  have kz13 : Bk.Blk (w12.setCell ⟨w.heap.size, 5, none⟩ (.int .i64 0)) (w.heap.size + 3) #[.int .i64 0, .int .i64 0, .int .i64 0, .int .i64 0, .int .i64 0, .int .i64 0, .int .i64 0, .int .i64 0, .int .i64 0, .int .i64 0, .int .i64 0, .int .i64 0, .int .i64 0, .int .i64 0, .int .i64 0, .int .i64 0, .int .i64 0, .int .i64 0, .int .i64 0, .int .i64 0, .int .i64 0, .string { data := #[] }, .string { data := #[] }, .slice none 0 0, .slice none 0 0] 31 := kz12.set_ne (by omega)
                  have cw13 : Below w.heap.size w (w12.setCell ⟨w.heap.size, 5, none⟩ (.int .i64 0)) := cw12.setCell (Nat.le_refl _) _
                  clear kt12 kz12 cw12
                  have hd13 : DuesIn (w12.setCell ⟨w.heap.size, 5, none⟩ (.int .i64 0)) da2 ls := dues_of_row hd12.1 (row_put hd12.row (fun ad had => by have := hf2 ad had; show ad.block ≠ w.heap.size; omega))
                  have hr13 : RowIn cenc (w12.setCell ⟨w.heap.size, 5, none⟩ (.int .i64 0)) a7 (l.cs ++ [(⟨day, N, l.tm⟩ : Ch)]) := row_put hr12 (fun ad had => by have := ha7 ad had; show ad.block ≠ w.heap.size; omega)
                  clear hd12 hr12
                  generalize (w12.setCell ⟨w.heap.size, 5, none⟩ (.int .i64 0)) = w13 at *
                  have k014 : Bk.Blk (w13.setCell ⟨w.heap.size, 6, none⟩ (.int .i64 0)) w.heap.size #[.int .i64 l.id, .int .i64 l.ac, .int .i64 l.st, .int .i64 0, .int .i64 0, .int .i64 0, .int .i64 0, .int .i64 l.chg, .int .i64 l.prov, .int .i64 l.loss, .int .i64 l.rcv, .int .i64 t.me, .int .i64 t.pr, .int .i64 t.ppm, .int .i64 t.stt, .int .i64 t.ev, .int .i64 t.ct, .int .i64 t.ba, .int .i64 t.mo, .int .i64 t.pen, .int .i64 t.fe, .string t.cal, .string t.cur, .slice da2 ls.length dk2, .slice a7 (l.cs.length + 1) c7] 31 := (k013.set_same (i := 6) (u := .int .i64 0)).conv rfl
                  clear k013
                  have kt14 : Bk.Blk (w13.setCell ⟨w.heap.size, 6, none⟩ (.int .i64 0)) (w.heap.size + 1) #[.int .i64 (t).me, .int .i64 (t).pr, .int .i64 (t).ppm, .int .i64 (t).stt, .int .i64 (t).ev, .int .i64 (t).ct, .int .i64 (t).ba, .int .i64 (t).mo, .int .i64 (t).pen, .int .i64 (t).fe, .string (t).cal, .string (t).cur] 23 := kt13.set_ne (by omega)
                  have kz14 : Bk.Blk (w13.setCell ⟨w.heap.size, 6, none⟩ (.int .i64 0)) (w.heap.size + 3) #[.int .i64 0, .int .i64 0, .int .i64 0, .int .i64 0, .int .i64 0, .int .i64 0, .int .i64 0, .int .i64 0, .int .i64 0, .int .i64 0, .int .i64 0, .int .i64 0, .int .i64 0, .int .i64 0, .int .i64 0, .int .i64 0, .int .i64 0, .int .i64 0, .int .i64 0, .int .i64 0, .int .i64 0, .string { data := #[] }, .string { data := #[] }, .slice none 0 0, .slice none 0 0] 31 := kz13.set_ne (by omega)
                  have cw14 : Below w.heap.size w (w13.setCell ⟨w.heap.size, 6, none⟩ (.int .i64 0)) := cw13.setCell (Nat.le_refl _) _
                  clear kt13 kz13 cw13
                  have hd14 : DuesIn (w13.setCell ⟨w.heap.size, 6, none⟩ (.int .i64 0)) da2 ls := dues_of_row hd13.1 (row_put hd13.row (fun ad had => by have := hf2 ad had; show ad.block ≠ w.heap.size; omega))
                  have hr14 : RowIn cenc (w13.setCell ⟨w.heap.size, 6, none⟩ (.int .i64 0)) a7 (l.cs ++ [(⟨day, N, l.tm⟩ : Ch)]) := row_put hr13 (fun ad had => by have := ha7 ad had; show ad.block ≠ w.heap.size; omega)
                  clear hd13 hr13
                  generalize (w13.setCell ⟨w.heap.size, 6, none⟩ (.int .i64 0)) = w14 at *
                  have c7 := k014.c7
                  have f7 := k014.f7
                  go_upto_region 21 with fail
                  clear c7 f7
                  have k015 : Bk.Blk (w14.setCell ⟨w.heap.size, 7, none⟩ (.int .i64 (max l.chg day))) w.heap.size #[.int .i64 l.id, .int .i64 l.ac, .int .i64 l.st, .int .i64 0, .int .i64 0, .int .i64 0, .int .i64 0, .int .i64 (max l.chg day), .int .i64 l.prov, .int .i64 l.loss, .int .i64 l.rcv, .int .i64 t.me, .int .i64 t.pr, .int .i64 t.ppm, .int .i64 t.stt, .int .i64 t.ev, .int .i64 t.ct, .int .i64 t.ba, .int .i64 t.mo, .int .i64 t.pen, .int .i64 t.fe, .string t.cal, .string t.cur, .slice da2 ls.length dk2, .slice a7 (l.cs.length + 1) c7] 31 := (k014.set_same (i := 7) (u := .int .i64 (max l.chg day))).conv rfl
                  clear k014
                  have kt15 : Bk.Blk (w14.setCell ⟨w.heap.size, 7, none⟩ (.int .i64 (max l.chg day))) (w.heap.size + 1) #[.int .i64 (t).me, .int .i64 (t).pr, .int .i64 (t).ppm, .int .i64 (t).stt, .int .i64 (t).ev, .int .i64 (t).ct, .int .i64 (t).ba, .int .i64 (t).mo, .int .i64 (t).pen, .int .i64 (t).fe, .string (t).cal, .string (t).cur] 23 := kt14.set_ne (by omega)
                  have kz15 : Bk.Blk (w14.setCell ⟨w.heap.size, 7, none⟩ (.int .i64 (max l.chg day))) (w.heap.size + 3) #[.int .i64 0, .int .i64 0, .int .i64 0, .int .i64 0, .int .i64 0, .int .i64 0, .int .i64 0, .int .i64 0, .int .i64 0, .int .i64 0, .int .i64 0, .int .i64 0, .int .i64 0, .int .i64 0, .int .i64 0, .int .i64 0, .int .i64 0, .int .i64 0, .int .i64 0, .int .i64 0, .int .i64 0, .string { data := #[] }, .string { data := #[] }, .slice none 0 0, .slice none 0 0] 31 := kz14.set_ne (by omega)
                  have cw15 : Below w.heap.size w (w14.setCell ⟨w.heap.size, 7, none⟩ (.int .i64 (max l.chg day))) := cw14.setCell (Nat.le_refl _) _
                  clear kt14 kz14 cw14
                  have hd15 : DuesIn (w14.setCell ⟨w.heap.size, 7, none⟩ (.int .i64 (max l.chg day))) da2 ls := dues_of_row hd14.1 (row_put hd14.row (fun ad had => by have := hf2 ad had; show ad.block ≠ w.heap.size; omega))
                  have hr15 : RowIn cenc (w14.setCell ⟨w.heap.size, 7, none⟩ (.int .i64 (max l.chg day))) a7 (l.cs ++ [(⟨day, N, l.tm⟩ : Ch)]) := row_put hr14 (fun ad had => by have := ha7 ad had; show ad.block ≠ w.heap.size; omega)
                  clear hd14 hr14
                  generalize (w14.setCell ⟨w.heap.size, 7, none⟩ (.int .i64 (max l.chg day))) = w15 at *
                  go_wp2_with (first | (refine wpList_load_row rfl 31 _ rfl _ rfl _ _ _ _ k015 Tryz.underlying31 rfl (by kernel_rfl) ?_) | (refine wpList_store_row rfl 31 _ _ rfl _ _ rfl rfl _ _ kz15 (by kernel_rfl) rfl (by simp [Value.oneCell']) ?_))
                  (try simp only [Exit.inBlock, Exit.then])
                  refine bodyPost_ret (results2_cell Tryz.results49 _ _ _ _ _ _ _ rfl (Blk_setRow_same kz15) Tryz.underlying31 rfl (by kernel_rfl)) rfl ?_
                  exact chOut_ok HE3.out HLS.out HN.out (dues_setRow hd15 (fun ad had => by have := hf2 ad had; omega)) (row_row hr15 (fun ad had => by have := ha7 ad had; omega)) ⟨fun ad had => by have := hf2 ad had; omega, fun ad had => by have := ha7 ad had; omega⟩ (Below_setRow cw15 (by omega) _)
          · have s3 : (t.cur.toList == l.tm.cur.toList) = false := beq_eq_false_iff_ne.2 (fun e => b3 (ls_inj e))
            have HF := Lib.hid (chE_3 (c := c) H1.out H2.out (bad_3 b3))
            go_wp2_with (refine wpList_store_row rfl 31 _ _ rfl _ _ rfl rfl _ _ kz (by kernel_rfl) rfl (by simp [Value.oneCell']) ?_)
            (try simp only [Exit.inBlock, Exit.then])
            refine bodyPost_ret (results2_cell Tryz.results49 _ _ _ _ _ _ _ rfl (Blk_setRow_same kz) Tryz.underlying31 rfl (by kernel_rfl)) rfl ?_
            exact chOut_no HF.out (by decide) (Below_setRow cw3 (by omega) _)
        · have s2 : (t.pr != N) = true := by simpa using b2
          have HF := Lib.hid (chE_3 (c := c) H1.out H2.out (bad_2 (fun e => b2 (e.trans HN.out.symm))))
          go_wp2_with (refine wpList_store_row rfl 31 _ _ rfl _ _ rfl rfl _ _ kz (by kernel_rfl) rfl (by simp [Value.oneCell']) ?_)
          (try simp only [Exit.inBlock, Exit.then])
          refine bodyPost_ret (results2_cell Tryz.results49 _ _ _ _ _ _ _ rfl (Blk_setRow_same kz) Tryz.underlying31 rfl (by kernel_rfl)) rfl ?_
          exact chOut_no HF.out (by decide) (Below_setRow cw3 (by omega) _)
      · have s1 : (t.stt != day) = true := by simpa using b1
        have HF := Lib.hid (chE_3 (c := c) H1.out H2.out (bad_1 b1))
        go_wp2_with (refine wpList_store_row rfl 31 _ _ rfl _ _ rfl rfl _ _ kz (by kernel_rfl) rfl (by simp [Value.oneCell']) ?_)
        (try simp only [Exit.inBlock, Exit.then])
        refine bodyPost_ret (results2_cell Tryz.results49 _ _ _ _ _ _ _ rfl (Blk_setRow_same kz) Tryz.underlying31 rfl (by kernel_rfl)) rfl ?_
        exact chOut_no HF.out (by decide) (Below_setRow cw3 (by omega) _)
end Go.Proofs.YtfiplppdmedhkaaGreatDoor.Ln
