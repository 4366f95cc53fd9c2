/-
  Pay of package loan: where it stands.
-/
import Derived.Test.YtfiplppdmedhkaaGreatDoorLnr
import Derived.Test.YtfiplppdmedhkaaGreatDoorLc
namespace Go.Proofs.YtfiplppdmedhkaaGreatDoor.Ln
open Go.RowKit
open Go.Proofs.YtfiplppdmedhkaaGreatDoor
set_option maxRecDepth 100000

/-- Where Pay stands: the loan's block, the result's, the payment's. -/
structure PTl (w W : World) (g : Nat) (sl : Value) (L : Lo) (da ca : Option Addr) (dk ck : Nat) (n : Int) (v : Value) (ps : List Pa) : Prop where
  k : Bk.Blk W w.heap.size #[.int .i64 (L).id, .int .i64 (L).ac, .int .i64 (L).st, .int .i64 (L).pp, .int .i64 (L).pi, .int .i64 (L).fee, .int .i64 (L).pen, .int .i64 (L).chg, .int .i64 (L).prov, .int .i64 (L).loss, .int .i64 (L).rcv, .int .i64 ((L).tm).me, .int .i64 ((L).tm).pr, .int .i64 ((L).tm).ppm, .int .i64 ((L).tm).stt, .int .i64 ((L).tm).ev, .int .i64 ((L).tm).ct, .int .i64 ((L).tm).ba, .int .i64 ((L).tm).mo, .int .i64 ((L).tm).pen, .int .i64 ((L).tm).fe, .string ((L).tm).cal, .string ((L).tm).cur, .slice da (L).ds.length dk, .slice ca (L).cs.length ck] 31
  z : Bk.Blk W (w.heap.size + 1) #[.int .i64 0, .int .i64 0, .int .i64 0, .int .i64 0, .int .i64 0, .int .i64 0, .int .i64 0, .int .i64 0, .int .i64 0, .int .i64 0, .int .i64 0, .int .i64 0, .int .i64 0, .int .i64 0, .int .i64 0, .int .i64 0, .int .i64 0, .int .i64 0, .int .i64 0, .int .i64 0, .int .i64 0, .string .empty, .string .empty, .slice none 0 0, .slice none 0 0] 31
  p : Bk.Blk W g #[.int .i64 n, sl, v] 112
  pv : PV W w.heap.size v ps
  ap : v.ownBlock ≠ some w.heap.size ∧ v.ownBlock ≠ some (w.heap.size + 1) ∧ v.ownBlock ≠ some g
  b : Below w.heap.size w W
  g1 : w.heap.size + 1 < g
/-- .. and what is owed. -/
structure PSt (w W : World) (g og : Nat) (ow : List Pa) (L : Lo) (da ca : Option Addr) (dk ck : Nat) (n : Int) (v : Value) (ps : List Pa) : Prop where
  t : PTl w W g (.slice (some ⟨og, 0, none⟩) ow.length 4) L da ca dk ck n v ps
  row : RowIn penc W (some ⟨og, 0, none⟩) ow
  g2 : w.heap.size + 1 < og
  g3 : og ≠ g
  g4 : og < W.heap.size
  og' : v.ownBlock ≠ some og
section
variable {w W : World} {g og : Nat} {ow : List Pa} {L : Lo} {da ca : Option Addr} {dk ck : Nat} {n x : Int} {v sl : Value} {ps : List Pa}
theorem PTl.drew (h : PTl w W g sl L da ca dk ck n v ps) : PTl w W.drew g sl L da ca dk ck n v ps :=
  ⟨h.k.drew, h.z.drew, h.p.drew, h.pv.blk (fun _ _ => rfl), h.ap, h.b.drew, h.g1⟩
theorem PSt.drew (h : PSt w W g og ow L da ca dk ck n v ps) : PSt w W.drew g og ow L da ca dk ck n v ps :=
  ⟨h.t.drew, h.row.blk (fun _ _ => rfl), h.g2, h.g3, h.g4, h.og'⟩
theorem PTl.sz (h : PTl w W g sl L da ca dk ck n v ps) : w.heap.size + 1 < W.heap.size := h.z.lt
/-- A field of the loan is stored. -/
theorem PTl.put (h : PTl w W g sl L da ca dk ck n v ps) (i : Nat) (u : Value) (L' : Lo) {da' ca' : Option Addr} {dk' ck' : Nat} (e : (#[.int .i64 (L).id, .int .i64 (L).ac, .int .i64 (L).st, .int .i64 (L).pp, .int .i64 (L).pi, .int .i64 (L).fee, .int .i64 (L).pen, .int .i64 (L).chg, .int .i64 (L).prov, .int .i64 (L).loss, .int .i64 (L).rcv, .int .i64 ((L).tm).me, .int .i64 ((L).tm).pr, .int .i64 ((L).tm).ppm, .int .i64 ((L).tm).stt, .int .i64 ((L).tm).ev, .int .i64 ((L).tm).ct, .int .i64 ((L).tm).ba, .int .i64 ((L).tm).mo, .int .i64 ((L).tm).pen, .int .i64 ((L).tm).fe, .string ((L).tm).cal, .string ((L).tm).cur, .slice da (L).ds.length dk, .slice ca (L).cs.length ck] : Array Value).setIfInBounds i u = #[.int .i64 (L').id, .int .i64 (L').ac, .int .i64 (L').st, .int .i64 (L').pp, .int .i64 (L').pi, .int .i64 (L').fee, .int .i64 (L').pen, .int .i64 (L').chg, .int .i64 (L').prov, .int .i64 (L').loss, .int .i64 (L').rcv, .int .i64 ((L').tm).me, .int .i64 ((L').tm).pr, .int .i64 ((L').tm).ppm, .int .i64 ((L').tm).stt, .int .i64 ((L').tm).ev, .int .i64 ((L').tm).ct, .int .i64 ((L').tm).ba, .int .i64 ((L').tm).mo, .int .i64 ((L').tm).pen, .int .i64 ((L').tm).fe, .string ((L').tm).cal, .string ((L').tm).cur, .slice da' (L').ds.length dk', .slice ca' (L').cs.length ck']) :
    PTl w (W.setCell ⟨w.heap.size, i, none⟩ u) g sl L' da' ca' dk' ck' n v ps := by
  have h1 := h.g1
  exact ⟨h.k.set_same.conv e, h.z.set_ne (by omega), h.p.set_ne (by omega), h.pv.blk (fun j hj => Below.heap_setCell _ _ _ _ (fun he => h.ap.1 (by rw [hj]; exact congrArg some he))), h.ap, h.b.setCell (Nat.le_refl _) _, h.g1⟩
theorem PSt.put (h : PSt w W g og ow L da ca dk ck n v ps) (i : Nat) (u : Value) (L' : Lo) (e : (#[.int .i64 (L).id, .int .i64 (L).ac, .int .i64 (L).st, .int .i64 (L).pp, .int .i64 (L).pi, .int .i64 (L).fee, .int .i64 (L).pen, .int .i64 (L).chg, .int .i64 (L).prov, .int .i64 (L).loss, .int .i64 (L).rcv, .int .i64 ((L).tm).me, .int .i64 ((L).tm).pr, .int .i64 ((L).tm).ppm, .int .i64 ((L).tm).stt, .int .i64 ((L).tm).ev, .int .i64 ((L).tm).ct, .int .i64 ((L).tm).ba, .int .i64 ((L).tm).mo, .int .i64 ((L).tm).pen, .int .i64 ((L).tm).fe, .string ((L).tm).cal, .string ((L).tm).cur, .slice da (L).ds.length dk, .slice ca (L).cs.length ck] : Array Value).setIfInBounds i u = #[.int .i64 (L').id, .int .i64 (L').ac, .int .i64 (L').st, .int .i64 (L').pp, .int .i64 (L').pi, .int .i64 (L').fee, .int .i64 (L').pen, .int .i64 (L').chg, .int .i64 (L').prov, .int .i64 (L').loss, .int .i64 (L').rcv, .int .i64 ((L').tm).me, .int .i64 ((L').tm).pr, .int .i64 ((L').tm).ppm, .int .i64 ((L').tm).stt, .int .i64 ((L').tm).ev, .int .i64 ((L').tm).ct, .int .i64 ((L').tm).ba, .int .i64 ((L').tm).mo, .int .i64 ((L').tm).pen, .int .i64 ((L').tm).fe, .string ((L').tm).cal, .string ((L').tm).cur, .slice da (L').ds.length dk, .slice ca (L').cs.length ck]) :
    PSt w (W.setCell ⟨w.heap.size, i, none⟩ u) g og ow L' da ca dk ck n v ps := by
  have h2 := h.g2
  exact ⟨h.t.put i u L' e, h.row.blk (fun ad had => by cases had; exact Below.heap_setCell _ _ _ _ (fun he => by simp at he; omega)), h.g2, h.g3, by simpa using h.g4, h.og'⟩
theorem PSt.fee (h : PSt w W g og ow L da ca dk ck n v ps) {L' : Lo} {x : Int} (e : L' = { L with fee := L.fee - x }) : PSt w (W.setCell ⟨w.heap.size, 5, none⟩ (.int .i64 (L.fee - x))) g og ow L' da ca dk ck n v ps := h.put 5 _ _ (by rw [e]; simp)
theorem PSt.fee0 (h : PSt w W g og ow L da ca dk ck n v ps) {L' : Lo} {x : Int} (kd : Int) (h0 : x = 0) (e : L' = { L with fee := L.fee - x }) : PSt w W g og ow L' da ca dk ck (n - x) v (ps ++ pparts [⟨kd, x⟩]) := by
  subst h0
  rw [e, Int.sub_zero, Int.sub_zero, show pparts [⟨kd, 0⟩] = [] from rfl, List.append_nil]
  exact h
theorem PSt.pen (h : PSt w W g og ow L da ca dk ck n v ps) {L' : Lo} {x : Int} (e : L' = { L with pen := L.pen - x }) : PSt w (W.setCell ⟨w.heap.size, 6, none⟩ (.int .i64 (L.pen - x))) g og ow L' da ca dk ck n v ps := h.put 6 _ _ (by rw [e]; simp)
theorem PSt.pen0 (h : PSt w W g og ow L da ca dk ck n v ps) {L' : Lo} {x : Int} (kd : Int) (h0 : x = 0) (e : L' = { L with pen := L.pen - x }) : PSt w W g og ow L' da ca dk ck (n - x) v (ps ++ pparts [⟨kd, x⟩]) := by
  subst h0
  rw [e, Int.sub_zero, Int.sub_zero, show pparts [⟨kd, 0⟩] = [] from rfl, List.append_nil]
  exact h
theorem PSt.pi (h : PSt w W g og ow L da ca dk ck n v ps) {L' : Lo} {x : Int} (e : L' = { L with pi := L.pi + x }) : PSt w (W.setCell ⟨w.heap.size, 4, none⟩ (.int .i64 (L.pi + x))) g og ow L' da ca dk ck n v ps := h.put 4 _ _ (by rw [e]; simp)
theorem PSt.pi0 (h : PSt w W g og ow L da ca dk ck n v ps) {L' : Lo} {x : Int} (kd : Int) (h0 : x = 0) (e : L' = { L with pi := L.pi + x }) : PSt w W g og ow L' da ca dk ck (n - x) v (ps ++ pparts [⟨kd, x⟩]) := by
  subst h0
  rw [e, Int.add_zero, Int.sub_zero, show pparts [⟨kd, 0⟩] = [] from rfl, List.append_nil]
  exact h
theorem PSt.pp (h : PSt w W g og ow L da ca dk ck n v ps) {L' : Lo} {x : Int} (e : L' = { L with pp := L.pp + x }) : PSt w (W.setCell ⟨w.heap.size, 3, none⟩ (.int .i64 (L.pp + x))) g og ow L' da ca dk ck n v ps := h.put 3 _ _ (by rw [e]; simp)
theorem PSt.pp0 (h : PSt w W g og ow L da ca dk ck n v ps) {L' : Lo} {x : Int} (kd : Int) (h0 : x = 0) (e : L' = { L with pp := L.pp + x }) : PSt w W g og ow L' da ca dk ck (n - x) v (ps ++ pparts [⟨kd, x⟩]) := by
  subst h0
  rw [e, Int.add_zero, Int.sub_zero, show pparts [⟨kd, 0⟩] = [] from rfl, List.append_nil]
  exact h
theorem PTl.st (h : PTl w W g sl L da ca dk ck n v ps) (x : Int) : PTl w (W.setCell ⟨w.heap.size, 2, none⟩ (.int .i64 x)) g sl { L with st := x } da ca dk ck n v ps := h.put 2 _ { L with st := x } (by simp)
/-- Behind a call that leaves old memory alone. -/
theorem PTl.later {W' : World} (h : PTl w W g sl L da ca dk ck n v ps) (hb : Below W.heap.size W W') : PTl w W' g sl L da ca dk ck n v ps :=
  ⟨h.k.later hb, h.z.later hb, h.p.later hb, h.pv.later hb, h.ap, bl2 hb h.b, h.g1⟩
end
section
variable {w W : World} {g : Nat} {L : Lo} {da ca : Option Addr} {dk ck : Nat} {n : Int} {v sl : Value} {ps : List Pa}
theorem PTl.fee0 (h : PTl w W g sl L da ca dk ck n v ps) {L' : Lo} {x : Int} (kd : Int) (h0 : x = 0) (e : L' = { L with fee := L.fee - x }) : PTl w W g sl L' da ca dk ck (n - x) v (ps ++ pparts [⟨kd, x⟩]) := by
  subst h0
  rw [e, Int.sub_zero, Int.sub_zero, show pparts [⟨kd, 0⟩] = [] from rfl, List.append_nil]
  exact h
theorem PTl.pen0 (h : PTl w W g sl L da ca dk ck n v ps) {L' : Lo} {x : Int} (kd : Int) (h0 : x = 0) (e : L' = { L with pen := L.pen - x }) : PTl w W g sl L' da ca dk ck (n - x) v (ps ++ pparts [⟨kd, x⟩]) := by
  subst h0
  rw [e, Int.sub_zero, Int.sub_zero, show pparts [⟨kd, 0⟩] = [] from rfl, List.append_nil]
  exact h
theorem PTl.pi0 (h : PTl w W g sl L da ca dk ck n v ps) {L' : Lo} {x : Int} (kd : Int) (h0 : x = 0) (e : L' = { L with pi := L.pi + x }) : PTl w W g sl L' da ca dk ck (n - x) v (ps ++ pparts [⟨kd, x⟩]) := by
  subst h0
  rw [e, Int.add_zero, Int.sub_zero, show pparts [⟨kd, 0⟩] = [] from rfl, List.append_nil]
  exact h
theorem PTl.pp0 (h : PTl w W g sl L da ca dk ck n v ps) {L' : Lo} {x : Int} (kd : Int) (h0 : x = 0) (e : L' = { L with pp := L.pp + x }) : PTl w W g sl L' da ca dk ck (n - x) v (ps ++ pparts [⟨kd, x⟩]) := by
  subst h0
  rw [e, Int.add_zero, Int.sub_zero, show pparts [⟨kd, 0⟩] = [] from rfl, List.append_nil]
  exact h
end
/-- take, one step. -/
theorem take_step {w W : World} {g og : Nat} {ow : List Pa} {L : Lo} {da ca : Option Addr} {dk ck : Nat} {n : Int} {v : Value} {ps : List Pa} (h : PSt w W g og ow L da ca dk ck n v ps) (kd t : Int) (ht : takeN ow kd n = t)
    (hl : ps.length ≤ 50) (hn : ow.length ≤ 4) (n0 : 0 ≤ n) (n1 : n ≤ 1000000000000) (ham : ∀ p ∈ ow, 0 < p.am ∧ p.am ≤ 1000000000000000) :
    Calls Tryz.prog 94 #[.pointer (some ⟨g, 0, none⟩), .int .i64 kd] W fun e w' => e = .returned (.int .i64 t) ∧ ∃ v', PSt w w' g og ow L da ca dk ck (n - t) v' (ps ++ pparts [⟨kd, t⟩]) := by
  subst ht
  have h1 := h.t.g1; have h2 := h.g2; have h4 := h.g4; have hz := h.t.sz
  refine (take_any g w.heap.size kd n _ 4 ow ps v W h.t.p h.row h.t.pv (by omega) h.t.ap.2.2 (fun ad had => by cases had; exact ⟨h.g3, h.og'⟩) hl hn n0 n1 ham).mono ?_
  rintro e w' ⟨rfl, v', hpv, hp, ho, hf⟩
  have hs := hf.size
  have own : ∀ j, j < W.heap.size → v.ownBlock ≠ some j → v'.ownBlock ≠ some j := fun j hj hne => by
    rcases ho with ho | ⟨i, ho, hi⟩
    · rw [ho]; exact hne
    · rw [ho]; intro he; have := Option.some.inj he; omega
  have hg := h.t.p.lt
  exact ⟨rfl, v', ⟨(hf.block _ (by omega) (by omega) h.t.ap.1).trans h.t.k, (hf.block _ (by omega) (by omega) h.t.ap.2.1).trans h.t.z, hp, hpv, ⟨own _ (by omega) h.t.ap.1, own _ (by omega) h.t.ap.2.1, own _ hg h.t.ap.2.2⟩, hf.below h.t.b h.t.b.size (by omega) (fun j hj => (h.t.pv.1.lt j hj).1), h1⟩,
    h.row.blk (fun ad had => by cases had; exact hf.block _ h4 h.g3 h.og'), h2, h.g3, by omega, own _ h4 h.og'⟩
/-- Clone at installments and at changes, in one form. -/
theorem cloned_row (a : Option Addr) (cap : Nat) (ds : List Du) (w : World) (h : DuesIn w a ds) (hl : ds.length ≤ 100000) :
    Calls Tryz.prog 64 #[.slice a ds.length cap] w fun e w' => ∃ a' c', e = .returned (.slice a' ds.length c') ∧ RowIn denc w' a' ds ∧ (∀ ad, a' = some ad → w.heap.size ≤ ad.block) ∧ Below w.heap.size w w' :=
  (cloned_any a cap ds w h hl).mono fun e w' ⟨hb, h⟩ => by
    rcases h with ⟨rfl, rfl, rfl⟩ | ⟨g, c, rfl, ho⟩
    · exact ⟨none, 0, rfl, fun h => absurd h (Nat.not_lt_zero _), (fun ad had => by cases had), hb⟩
    · exact ⟨_, _, rfl, ho.row, (fun ad had => by cases had; exact ho.1), hb⟩
theorem clonec_row (a : Option Addr) (cap : Nat) (cs : List Ch) (w : World) (h : RowIn cenc w a cs) (hl : cs.length ≤ 100000) :
    Calls Tryz.prog 68 #[.slice a cs.length cap] w fun e w' => ∃ a' c', e = .returned (.slice a' cs.length c') ∧ RowIn cenc w' a' cs ∧ (∀ ad, a' = some ad → w.heap.size ≤ ad.block) ∧ Below w.heap.size w w' :=
  (clonec_any a cap cs w h hl).mono fun e w' ⟨hb, h⟩ => by
    rcases h with ⟨rfl, rfl, rfl⟩ | ⟨g, c, rfl, ho⟩
    · exact ⟨none, 0, rfl, fun h => absurd h (Nat.not_lt_zero _), (fun ad had => by cases had), hb⟩
    · exact ⟨_, _, rfl, ho.row, (fun ad had => by cases had; exact ho.1), hb⟩
theorem done_same (L : Lo) : L.done.ds = L.ds ∧ L.done.cs = L.cs := by unfold Lo.done; split <;> exact ⟨rfl, rfl⟩
theorem PTl.conv {w W : World} {g : Nat} {sl : Value} {L : Lo} {da ca : Option Addr} {dk ck : Nat} {n : Int} {v : Value} {ps ps' : List Pa} (h : PTl w W g sl L da ca dk ck n v ps) (e : ps = ps') : PTl w W g sl L da ca dk ck n v ps' := e ▸ h
/-- A part is appended, and the payment holds the new slice. -/
theorem PTl.app {w W W' : World} {g : Nat} {sl : Value} {L : Lo} {da ca : Option Addr} {dk ck : Nat} {n : Int} {v : Value} {ps ps' : List Pa} {g' m c' : Nat} (h : PTl w W g sl L da ca dk ck n v ps)
    (hpv : PV W' w.heap.size (.slice (some ⟨g', 0, none⟩) m c') ps') (hgr : W.grownBy W' v.ownBlock) (hat : v.ownBlock = some g' ∨ g' = W.heap.size) :
    PTl w (W'.setCell ⟨g, 2, none⟩ (.slice (some ⟨g', 0, none⟩) m c')) g sl L da ca dk ck n (.slice (some ⟨g', 0, none⟩) m c') ps' := by
  have h1 := h.g1; have hz := h.sz; have hg := h.p.lt; have hs := hgr.size
  have own : ∀ j, j < W.heap.size → v.ownBlock ≠ some j → g' ≠ j := fun j hj hne he => by
    rcases hat with hat | hat
    · exact hne (by rw [hat, he])
    · omega
  have o1 := own _ (by omega) h.ap.1
  have o2 := own _ (by omega) h.ap.2.1
  have o3 := own _ hg h.ap.2.2
  have k1 : Bk.Blk W' w.heap.size _ _ := (hgr.block _ (by omega) (Ne.symm h.ap.1)).trans h.k
  have k2 : Bk.Blk W' (w.heap.size + 1) _ _ := (hgr.block _ (by omega) (Ne.symm h.ap.2.1)).trans h.z
  have k3 : Bk.Blk W' g _ _ := (hgr.block _ hg (Ne.symm h.ap.2.2)).trans h.p
  refine ⟨k1.set_ne (by omega), k2.set_ne (by omega), k3.set_same, hpv.blk (fun j hj => Below.heap_setCell _ _ _ _ (fun he => o3 ((Option.some.inj hj).trans he))), ?_, (h.b.grown hgr h.b.size (fun j hj => (h.pv.1.lt j hj).1)).setCell (by simp; omega) _, h1⟩
  refine ⟨fun he => o1 (Option.some.inj he), fun he => o2 (Option.some.inj he), fun he => o3 (Option.some.inj he)⟩
/-- The clones are stored. -/
def CLR (w : World) (g : Nat) (sl : Value) (L : Lo) (n : Int) (v : Value) (ps : List Pa) (wx : World) : Prop := ∃ da' ca' dk' ck', PTl w wx g sl L da' ca' dk' ck' n v ps ∧ RowIn denc wx da' L.ds ∧ RowIn cenc wx ca' L.cs ∧ (∀ ad, da' = some ad → w.heap.size + 1 < ad.block) ∧ (∀ ad, ca' = some ad → w.heap.size + 1 < ad.block)
theorem clone_fin {w W : World} {g : Nat} {sl : Value} {L : Lo} {da ca a1 a2 : Option Addr} {dk ck c1 c2 : Nat} {n : Int} {v : Value} {ps : List Pa} {n1 n2 : Nat} (h : PTl w W g sl L da ca dk ck n v ps)
    (h1 : RowIn denc W a1 L.ds) (h2 : RowIn cenc W a2 L.cs) (f1 : ∀ ad, a1 = some ad → n1 ≤ ad.block) (f2 : ∀ ad, a2 = some ad → n2 ≤ ad.block) (k1 : w.heap.size + 1 < n1) (k2 : w.heap.size + 1 < n2) :
    CLR w g sl L n v ps ((W.setCell ⟨w.heap.size, 23, none⟩ (.slice a1 L.ds.length c1)).setCell ⟨w.heap.size, 24, none⟩ (.slice a2 L.cs.length c2)) := by
  refine ⟨a1, a2, c1, c2, (h.put 23 (.slice a1 L.ds.length c1) L (da' := a1) (ca' := ca) (dk' := c1) (ck' := ck) (by simp)).put 24 _ L (by simp), ?_, ?_, fun ad had => by have := f1 ad had; omega, fun ad had => by have := f2 ad had; omega⟩
  · exact h1.blk (fun ad had => by
      have := f1 ad had
      exact (Below.heap_setCell _ _ _ _ (show ad.block ≠ _ by simp; omega)).trans (Below.heap_setCell _ _ _ _ (show ad.block ≠ _ by simp; omega)))
  · exact h2.blk (fun ad had => by
      have := f2 ad had
      exact (Below.heap_setCell _ _ _ _ (show ad.block ≠ _ by simp; omega)).trans (Below.heap_setCell _ _ _ _ (show ad.block ≠ _ by simp; omega)))
end Go.Proofs.YtfiplppdmedhkaaGreatDoor.Ln
